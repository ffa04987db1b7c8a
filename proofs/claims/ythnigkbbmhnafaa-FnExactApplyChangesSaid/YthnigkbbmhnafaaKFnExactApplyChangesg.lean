/- Changes made to a state, by the program as by the reference. This text holds the last walks, the plain law and the row. -/
import Derived.Lib.Bytealg
import Derived.Test.YthnigkbbmhnafaaRows
import Derived.WalkKit
import Derived.ProofKit
import Derived.OpenShut
import Derived.ShutString
import Derived.ChangeOld
import Derived.Below
import Derived.SizedLaws
import Derived.Carry
import Derived.Test.YthnigkbbmhnafaaKFnExactApplyChangesa
import Derived.Test.YthnigkbbmhnafaaKFnExactApplyChangesb
import Derived.Test.YthnigkbbmhnafaaKFnExactApplyChangesd
import Derived.Test.YthnigkbbmhnafaaKFnExactApplyChangesf
import Derived.Test.YthnigkbbmhnafaaKFnExactApplyChangese
import Derived.Test.YthnigkbbmhnafaaKFnExactApplyChangesc
set_option linter.unusedVariables false
set_option linter.unusedSimpArgs false
namespace Go.Proofs.Ythnigkbbmhnafaa.Q
open Go.RowKit Go.Proofs.YthnigkbbmhnafaaW.PrintWords Go.Proofs.YthnigkbbmhnafaaW.PrintLast Go.Proofs.YthnigkbbmhnafaaW.PrintMore
theorem wr64 {x : Int} (h0 : -9223372036854775808 ≤ x) (h1 : x < 9223372036854775808) : wrap64 x = x := by unfold wrap64; omega
theorem wr64s (i : Nat) (h : (i : Int) < 9223372036854775807) : wrap64 ((i : Int) + 1) = ((i + 1 : Nat) : Int) := by rw [wr64 (by omega) (by omega)]; omega
theorem Ev_suc {α : Type} {g : Nat → Option α} {r : α} (h : Ev (fun k => g (k + 1)) r) : Ev g r := by
  obtain ⟨K, hK⟩ := h
  refine ⟨K + 1, fun k hk => ?_⟩
  obtain ⟨m, rfl⟩ : ∃ m, k = m + 1 := ⟨k - 1, by omega⟩
  exact hK m (by omega)
theorem Ev_t {α : Type} {c : Prop} [Decidable c] {f g : Nat → Option α} {r : α} (h : c) (k : Ev f r) : Ev (fun n => if c then f n else g n) r := by
  obtain ⟨K, hK⟩ := k
  exact ⟨K, fun n hn => (if_pos h).trans (hK n hn)⟩
theorem Ev_f {α : Type} {c : Prop} [Decidable c] {f g : Nat → Option α} {r : α} (h : ¬ c) (k : Ev g r) : Ev (fun n => if c then f n else g n) r := by
  obtain ⟨K, hK⟩ := k
  exact ⟨K, fun n hn => (if_neg h).trans (hK n hn)⟩
theorem Ev_b {α β : Type} {g : Nat → Option α} {f : Nat → α → Option β} {a : α} {r : β} (h : Ev g a) (k : Ev (fun n => f n a) r) : Ev (fun n => (g n).bind (fun x => f n x)) r := Ev.bind h k
theorem Ev_s {α β : Type} {a : α} {f : Nat → α → Option β} {r : β} (k : Ev (fun n => f n a) r) : Ev (fun n => (some a).bind (fun x => f n x)) r := k
theorem Ev_n {α : Type} {a r : α} (h : a = r) : Ev (fun _ => some a) r := ⟨0, fun _ _ => by rw [h]⟩
theorem Ev_c {α : Type} {o : Option α} {r : α} (h : o = some r) : Ev (fun _ => o) r := ⟨0, fun _ _ => h⟩
theorem Ev_at {α : Type} {g : Nat → Option α} {r r' : α} (h : Ev g r) (e : r = r') : Ev g r' := e ▸ h
def cut (c s : Int) : Int := if s ≤ c then c - s else -1
theorem cut_pos {c s : Int} (h : s ≤ c) : cut c s = c - s := by unfold cut; rw [if_pos h]
theorem cut_neg {c s : Int} (h : ¬ s ≤ c) : cut c s = -1 := by unfold cut; rw [if_neg h]
theorem set_take' {α : Type} (xs : List α) (i : Nat) (m : α) (h : i < xs.length) : (xs.set i m).take (i + 1) = xs.take i ++ [m] := by
  rw [List.take_succ_eq_append_getElem (by simpa using h)]
  congr 1
  · rw [List.take_set_of_le (Nat.le_refl _)]
  · simp
theorem getD_in {α : Type} (l : List α) (z : α) (i : Nat) (h : i < l.length) : l.getD ((i : Int).toNat) z = l[i] := by simp [List.getD, h]
theorem getD_at {α : Type} (p q : List α) (z x : α) (i : Nat) (h : p.length = i) : (p ++ x :: q).getD ((i : Int).toNat) z = x := by subst h; simp [List.getD]
theorem set_at {α : Type} (p q : List α) (x y : α) (i : Nat) (h : p.length = i) : (p ++ x :: q).set ((i : Int).toNat) y = p ++ y :: q := by subst h; simp
theorem sum_le {α : Type} (f : α → Nat) : ∀ (l : List α) (x : α), x ∈ l → f x ≤ (l.map f).sum
  | a :: l, x, h => by
    rw [List.map_cons, List.sum_cons]
    rcases List.mem_cons.1 h with rfl | h
    · omega
    · have := sum_le f l x h; omega
end Go.Proofs.Ythnigkbbmhnafaa.Q
namespace Go.Proofs.Ythnigkbbmhnafaa.Q
open Go.RowKit Go.Proofs.YthnigkbbmhnafaaW.PrintWords Go.Proofs.YthnigkbbmhnafaaW.PrintLast Go.Proofs.YthnigkbbmhnafaaW.PrintMore
theorem markText_ev (c : Int) (h0 : 0 ≤ c) (h1 : c ≤ 1000000000000000000) : ∃ t, Ev (fun k => laws_markText.f k c) t := by
  have go : ∀ (d : Nat) (c : Int) (s : ByteArray), 0 ≤ c → c < 10 ^ d → c ≤ 1000000000000000000 → s.size + d ≤ 1000 → ∃ t, Ev (fun k => laws_markText.l0 k c s) t := by
    intro d
    induction d with
    | zero =>
      intro c s h0 h1 h2 h3
      refine ⟨(⟨#[109]⟩ : ByteArray) ++ s, Ev_suc ?_⟩
      simp only [laws_markText.l0]
      refine Ev_f (by simp at h1; omega) (Ev_t (by omega) (Ev_n rfl))
    | succ d ih =>
      intro c s h0 h1 h2 h3
      by_cases hc : c > 0
      · have e1 : (strOfNums [(wrap64 (48 + Int.tmod c 10)) % 256]).size = 1 := rfl
        have e2 : wrap64 (Int.tdiv c 10) = c / 10 := by rw [Int.tdiv_eq_ediv_of_nonneg h0, wr64 (by omega) (by omega)]
        obtain ⟨t, ht⟩ := ih (c / 10) (strOfNums [(wrap64 (48 + Int.tmod c 10)) % 256] ++ s) (by omega) (by rw [Int.pow_succ] at h1; omega) (by omega) (by rw [ByteArray.size_append, e1]; omega)
        refine ⟨t, Ev_suc ?_⟩
        simp only [laws_markText.l0]
        refine Ev_t hc (Ev_s (Ev_t (by rw [e1]; omega) ?_))
        rw [e2]
        exact ht
      · refine ⟨(⟨#[109]⟩ : ByteArray) ++ s, Ev_suc ?_⟩
        simp only [laws_markText.l0]
        refine Ev_f hc (Ev_t (by omega) (Ev_n rfl))
  by_cases hc : c ≤ 0
  · refine ⟨(⟨#[109, 48]⟩ : ByteArray), ?_⟩
    simp only [laws_markText.f]
    exact Ev_t hc (Ev_n rfl)
  · obtain ⟨t, ht⟩ := go 19 c (⟨#[]⟩ : ByteArray) h0 (by omega) h1 (by simp [ByteArray.size])
    refine ⟨t, ?_⟩
    simp only [laws_markText.f]
    exact Ev_f hc ht
end Go.Proofs.Ythnigkbbmhnafaa.Q
namespace Go.Proofs.Ythnigkbbmhnafaa.Q
open Go.RowKit Go.Proofs.YthnigkbbmhnafaaW.PrintWords Go.Proofs.YthnigkbbmhnafaaW.PrintLast Go.Proofs.YthnigkbbmhnafaaW.PrintMore
attribute [local go_sem] max2_int min2_int max_two min_two max_three min_three max_four min_four
set_option linter.unusedVariables false
set_option linter.unusedSimpArgs false
def laws_heldChangeS.l0 : Nat → List (S87) → Int → Int → Option (Int)
  | 0, _, _, _ => none
  | k + 1, x0, x1, x5 => if x5 < (x0.length : Int) then (if 0 ≤ x5 then (if ((rd_T87 x0 x5).f0) = x1 then ((laws_markText.f k (wrap64 (x1 + 1))).bind fun t103 => (if ((rd_T87 x0 x5).f1.f0).toList = t103.toList then ((laws_markText.f k (wrap64 ((wrap64 (x1 + 1)) + 1))).bind fun t105 => (if ((rd_T87 x0 x5).f1.f1.f0).toList = t105.toList then (if ((rd_T87 x0 x5).f1.f1.f1) = (wrap64 ((wrap64 ((wrap64 (x1 + 1)) + 1)) + 1)) then (if ((rd_T87 x0 x5).f1.f1.f2) = (wrap64 ((wrap64 ((wrap64 ((wrap64 (x1 + 1)) + 1)) + 1)) + 1)) then (laws_heldChangeS.l0 k x0 (wrap64 ((wrap64 ((wrap64 ((wrap64 ((wrap64 (x1 + 1)) + 1)) + 1)) + 1)) + 1)) (wrap64 (x5 + 1))) else (some (-1))) else (some (-1))) else (some (-1)))) else (some (-1)))) else (some (-1))) else (none)) else (some x1)
def laws_heldChangeS.f (k : Nat) (l0 : List (S87)) (a1 : Int) : Option (Int) := laws_heldChangeS.l0 k l0 a1 0
def laws_heldChangeS.T7 : Bool × List (List Nat × List Nat) := (true, [([], []), ([], []), ([0, 1], [0, 1]), ([2], [2]), ([3], [3]), ([4], [4]), ([], []), ([6], [6]), ([5, 7], [5, 7])])
def laws_heldChangeS.B7 : List Nat := [0, 0, 3, 7, 15, 31, 0, 64, 255]
theorem laws_heldChangeS.tab7 : rtab .any (opsOf Try.f32 7) = laws_heldChangeS.T7 := by kernel_rfl
theorem laws_heldChangeS.bits7 : waitsOk laws_heldChangeS.T7.2 laws_heldChangeS.B7 = true := by kernel_rfl
def laws_heldChangeS.T10 : Bool × List (List Nat × List Nat) := (true, [([], []), ([], []), ([0, 1], [0, 1]), ([2], [2]), ([3], [3]), ([4], [4]), ([5], [5]), ([], []), ([7], [7]), ([6, 8], [6, 8])])
def laws_heldChangeS.B10 : List Nat := [0, 0, 3, 7, 15, 31, 63, 0, 128, 511]
theorem laws_heldChangeS.tab10 : rtab .any (opsOf Try.f32 10) = laws_heldChangeS.T10 := by kernel_rfl
theorem laws_heldChangeS.bits10 : waitsOk laws_heldChangeS.T10.2 laws_heldChangeS.B10 = true := by kernel_rfl
set_option maxHeartbeats 8000000 in
set_option maxRecDepth 100000 in
theorem laws_heldChangeS.calls (k : Nat) (A0 : Option Addr) (c0 : Nat) (l0 : List (S87)) (a1 : Int) (r : Int) (w : World) (hr0 : Kd.C k87 w A0 l0.length l0) (hc0 : l0.length ≤ c0) (h : laws_heldChangeS.f k l0 a1 = some r) :
    Calls Try.prog 32 #[.slice A0 l0.length c0, .int .i64 a1] w fun e w' => e = .returned (.int .i64 r) ∧ Below w.heap.size w w' := by
  have HR0 := Aside0.mk hr0
  have HC0 := Aside0.mk hc0
  clear hr0 hc0
  have HB := Aside0.mk (Below.refl w.heap.size w)
  have H : (laws_heldChangeS.l0 k l0 a1 0) = some r := h
  clear h
  have H' := Aside0.mk H
  clear H
  go_enter Try.func32, Try.ntmps32
  go_wp2
  go_loopg [1, 5] k (fun kq v1 v5 w' => ∃ (x1_1 : Int) (x5_1 : Int), v1 = .int .i64 x1_1 ∧ v5 = .int .i64 x5_1 ∧ Aside0 (laws_heldChangeS.l0 kq l0 x1_1 x5_1 = some r) ∧ Aside0 (kq ≤ k) ∧ Aside0 (Below w.heap.size w w'))
  case atStart => exact ⟨(a1), (0), (by first | rfl | (simp; done) | (simp [*]; done)), (by first | rfl | (simp; done) | (simp [*]; done)), H', ⟨Nat.le_refl _⟩, ⟨by repeat (first | (with_reducible first | exact HB.out | apply below_alloc | apply pw_below_drewN | apply below_drew1) | exact HB.out)⟩⟩
  case round =>
    clear H'
    try clear p2
    obtain ⟨x1_1, x5_1, rfl, rfl, HA, HK1, HB⟩ := hrel
    cases gk with
    | zero => exact absurd HA.out (by simp [laws_heldChangeS.l0])
    | succ k1 =>
      have H := HA.out
      clear HA
      simp only [laws_heldChangeS.l0] at H
      by_cases c3 : x5_1 < (l0.length : Int)
      · rw [if_pos c3] at H
        have c3b0 : decide (x5_1 < (l0.length : Int)) = true := decide_eq_true c3
        clear c3
        by_cases c4 : 0 ≤ x5_1
        · rw [if_pos c4] at H
          have c4b0 : decide (0 ≤ x5_1) = true := decide_eq_true c4
          clear c4
          by_cases c5 : ((rd_T87 l0 x5_1).f0) = x1_1
          · rw [if_pos c5] at H
            have c5b0 : (((rd_T87 l0 x5_1).f0) == x1_1) = true := beq_iff_eq.mpr c5
            have c5b1 : (((rd_T87 l0 x5_1).f0) != x1_1) = false := bne_eq_false_iff_eq.mpr c5
            clear c5
            replace H := Option.bind_eq_some_iff.mp H
            obtain ⟨t103, A60, H⟩ := H
            replace H : (if ((rd_T87 l0 x5_1).f1.f0).toList = t103.toList then ((laws_markText.f k1 (wrap64 ((wrap64 (x1_1 + 1)) + 1))).bind fun t105 => (if ((rd_T87 l0 x5_1).f1.f1.f0).toList = t105.toList then (if ((rd_T87 l0 x5_1).f1.f1.f1) = (wrap64 ((wrap64 ((wrap64 (x1_1 + 1)) + 1)) + 1)) then (if ((rd_T87 l0 x5_1).f1.f1.f2) = (wrap64 ((wrap64 ((wrap64 ((wrap64 (x1_1 + 1)) + 1)) + 1)) + 1)) then (laws_heldChangeS.l0 k1 l0 (wrap64 ((wrap64 ((wrap64 ((wrap64 ((wrap64 (x1_1 + 1)) + 1)) + 1)) + 1)) + 1)) (wrap64 (x5_1 + 1))) else (some (-1))) else (some (-1))) else (some (-1)))) else (some (-1))) = some r := H
            have A6 := Aside0.mk A60
            clear A60
            have HC7 := Aside0.mk H
            clear H
            have p101 : 0 ≤ (x5_1 : Int) := of_decide_eq_true (by first | (with_reducible assumption) | assumption)
            have q101 : x5_1 < (l0.length : Int) := of_decide_eq_true (by first | (with_reducible assumption) | assumption)
            obtain ⟨ad101, e101, hx101_0, hx101_1, hx101_2, hx101_3, hx101_4⟩ := at_T87 HR0.out x5_1 p101 q101
            cases e101
            replace hx101_0 := (HB.out.cell (World.block_lt_of_cell? w _ hx101_0)).trans hx101_0
            replace hx101_1 := (HB.out.cell (World.block_lt_of_cell? w _ hx101_1)).trans hx101_1
            replace hx101_2 := (HB.out.cell (World.block_lt_of_cell? w _ hx101_2)).trans hx101_2
            replace hx101_3 := (HB.out.cell (World.block_lt_of_cell? w _ hx101_3)).trans hx101_3
            replace hx101_4 := (HB.out.cell (World.block_lt_of_cell? w _ hx101_4)).trans hx101_4
            replace p101 := eq_true p101
            replace q101 := eq_true q101
            try go_wp2
            have n0_ := Aside0.mk (below_drew1 HB.out)
            clear HB
            have HB := n0_
            clear n0_
            have p102 : 0 ≤ (x5_1 : Int) := of_decide_eq_true (by first | (with_reducible assumption) | assumption)
            have q102 : x5_1 < (l0.length : Int) := of_decide_eq_true (by first | (with_reducible assumption) | assumption)
            obtain ⟨ad102, e102, hx102_0, hx102_1, hx102_2, hx102_3, hx102_4⟩ := at_T87 HR0.out x5_1 p102 q102
            have hw102_4 := hx102_4
            have hw102_3 := hx102_3
            have hw102_2 := hx102_2
            have hw102_1 := hx102_1
            have hw102_0 := hx102_0
            obtain rfl : ad101 = ad102 := (by injection e102)
            replace hx102_0 := (HB.out.cell (World.block_lt_of_cell? w _ hx102_0)).trans hx102_0
            replace hx102_1 := (HB.out.cell (World.block_lt_of_cell? w _ hx102_1)).trans hx102_1
            replace hx102_2 := (HB.out.cell (World.block_lt_of_cell? w _ hx102_2)).trans hx102_2
            replace hx102_3 := (HB.out.cell (World.block_lt_of_cell? w _ hx102_3)).trans hx102_3
            replace hx102_4 := (HB.out.cell (World.block_lt_of_cell? w _ hx102_4)).trans hx102_4
            replace p102 := eq_true p102
            replace q102 := eq_true q102
            refine start_ (n := 9) (S := fun w' => w'.cell? (ad101.add ((x5_1).toNat * 5)) = some (.int .i64 ((rd_T87 l0 x5_1).f0)) ∧ w'.cell? ⟨(ad101.add ((x5_1).toNat * 5)).block, (ad101.add ((x5_1).toNat * 5)).off + 1, none⟩ = some (.string ((rd_T87 l0 x5_1).f1.f0)) ∧ w'.cell? ⟨(ad101.add ((x5_1).toNat * 5)).block, (ad101.add ((x5_1).toNat * 5)).off + 2, none⟩ = some (.string ((rd_T87 l0 x5_1).f1.f1.f0)) ∧ w'.cell? ⟨(ad101.add ((x5_1).toNat * 5)).block, (ad101.add ((x5_1).toNat * 5)).off + 3, none⟩ = some (.int .i64 ((rd_T87 l0 x5_1).f1.f1.f1)) ∧ w'.cell? ⟨(ad101.add ((x5_1).toNat * 5)).block, (ad101.add ((x5_1).toNat * 5)).off + 4, none⟩ = some (.int .i64 ((rd_T87 l0 x5_1).f1.f1.f2))) (ds := []) #[false, false, false, false, false, false, false, false, false] (by kernel_rfl) rfl rfl ⟨((HB.out.cell (World.block_lt_of_cell? w _ hw102_0)).trans hw102_0), ((HB.out.cell (World.block_lt_of_cell? w _ hw102_1)).trans hw102_1), ((HB.out.cell (World.block_lt_of_cell? w _ hw102_2)).trans hw102_2), ((HB.out.cell (World.block_lt_of_cell? w _ hw102_3)).trans hw102_3), ((HB.out.cell (World.block_lt_of_cell? w _ hw102_4)).trans hw102_4)⟩ (fun hHeld => ?_); refine with_tabW laws_heldChangeS.tab7 laws_heldChangeS.bits7 (fun HT_ HW_ => ?_)
            generalize wr.drew = w8 at HB hx102_0 hx102_1 hx102_2 hx102_3 hx102_4 hHeld ⊢
            refine pure_ (i := 0) (N := some 21) (v := ?_) (a' := ?_) #[true, false, false, false, false, false, false, false, false] rfl rfl (any_of HT_.out (by kernel_rfl)) (fun _ _ _ h => h) (Or.inl ⟨by rfl, ?_⟩) ?_ ?_
            rotate_left
            · intro w'
              go_simp
              with_reducible rfl
            rotate_left
            · simp only [Act.put, List.setIfInBounds_toArray, List.set_cons_zero, List.set_cons_succ, i64_w, i32_w]
              rfl
            refine pure_ (i := 1) (N := some 22) (v := ?_) (a' := ?_) #[true, true, false, false, false, false, false, false, false] rfl rfl (any_of HT_.out (by kernel_rfl)) (fun _ _ _ h => h) (Or.inl ⟨by rfl, ?_⟩) ?_ ?_
            rotate_left
            · intro w'
              go_simp
              with_reducible rfl
            rotate_left
            · simp only [Act.put, List.setIfInBounds_toArray, List.set_cons_zero, List.set_cons_succ, i64_w, i32_w]
              rfl
            refine pure_ (i := 2) (N := some 23) (v := ?_) (a' := ?_) #[true, true, true, false, false, false, false, false, false] rfl rfl (any_of HT_.out (by kernel_rfl)) (fun _ _ _ h => h) (Or.inl ⟨by rfl, ?_⟩) ?_ ?_
            rotate_left
            · intro w'
              go_simp
              with_reducible rfl
            rotate_left
            · simp only [Act.put, List.setIfInBounds_toArray, List.set_cons_zero, List.set_cons_succ, i64_w, i32_w]
              rfl
            refine pure_ (i := 3) (N := some 24) (v := ?_) (a' := ?_) #[true, true, true, true, false, false, false, false, false] rfl rfl (any_of HT_.out (by kernel_rfl)) (fun _ _ _ h => h) (Or.inl ⟨by rfl, ?_⟩) ?_ ?_
            rotate_left
            · intro w'
              go_simp
              with_reducible rfl
            rotate_left
            · simp only [Act.put, List.setIfInBounds_toArray, List.set_cons_zero, List.set_cons_succ, i64_w, i32_w]
              rfl
            refine pure_ (i := 4) (N := some 25) (v := ?_) (a' := ?_) #[true, true, true, true, true, false, false, false, false] rfl rfl (any_of HT_.out (by kernel_rfl)) (fun _ _ _ h => h) (Or.inl ⟨by rfl, ?_⟩) ?_ ?_
            rotate_left
            · intro w'
              go_simp
              with_reducible rfl
            rotate_left
            · simp only [Act.put, List.setIfInBounds_toArray, List.set_cons_zero, List.set_cons_succ, i64_w, i32_w]
              rfl
            refine pure_ (i := 6) (N := some 27) (v := ?_) (a' := ?_) #[true, true, true, true, true, false, true, false, false] rfl rfl (any_of HT_.out (by kernel_rfl)) (fun _ _ _ h => h) (Or.inl ⟨by rfl, ?_⟩) ?_ ?_
            rotate_left
            · intro w'
              go_simp
              with_reducible rfl
            rotate_left
            · simp only [Act.put, List.setIfInBounds_toArray, List.set_cons_zero, List.set_cons_succ, i64_w, i32_w]
              rfl
            refine take_ (i := 5) (N := some 26) (v := ?_) (a' := ?_) #[true, true, true, true, true, true, true, false, false] rfl rfl (take_ofW HT_.out HW_.out (by kernel_rfl)) (fun _ _ _ h => h) (Or.inl ⟨by rfl, ?_⟩) hHeld ?_ ?_
            rotate_left
            · rintro w' ⟨s0, s1, s2, s3, s4⟩
              go_simp
              with_reducible rfl
            rotate_left
            · simp only [Act.put, List.setIfInBounds_toArray, List.set_cons_zero, List.set_cons_succ, i64_w, i32_w]
              rfl
            refine one_ (i := 7) (N := some 28) #[true, true, true, true, true, true, true, true, false] rfl rfl (one_of HT_.out (by kernel_rfl)) (by decide) (fun K hK => ?_)
            (first | refine goes_ Try.func70 (by kernel_rfl) rfl #[.int .i64 (wrap64 (x1_1 + 1))] (by rfl) rfl rfl (by (try simp only [List.map_toArray, List.map_cons, List.map_nil]); first | done | rfl | (simp only [List.length_drop, List.length_take]; rfl)) ?_ | refine RPW.goesV_ Try.func70 (by kernel_rfl) rfl #[.int .i64 (wrap64 (x1_1 + 1))] (by rfl) rfl rfl rfl (by (try simp only [List.map_toArray, List.map_cons, List.map_nil]); first | done | rfl | (simp only [List.length_drop, List.length_take]; rfl)) ?_)
            with_reducible refine (laws_markText.calls k1 (wrap64 (x1_1 + 1)) t103 _ A6.out).mono ?_
            rintro e w9 ⟨rfl, hb⟩
            refine ⟨_, rfl, ?_⟩
            have n0_ := Aside0.mk (below_step (by repeat (first | (with_reducible first | exact HB.out | apply below_alloc | apply pw_below_drewN | apply below_drew1) | exact HB.out)) hb)
            clear HB
            have HB := n0_
            clear n0_
            (try clear hb)
            (try clear hb2)
            (try clear hk)
            (try clear hi)
            refine hK.out _ _ ⟨((HB.out.cell (World.block_lt_of_cell? w _ hw102_0)).trans hw102_0), ((HB.out.cell (World.block_lt_of_cell? w _ hw102_1)).trans hw102_1), ((HB.out.cell (World.block_lt_of_cell? w _ hw102_2)).trans hw102_2), ((HB.out.cell (World.block_lt_of_cell? w _ hw102_3)).trans hw102_3), ((HB.out.cell (World.block_lt_of_cell? w _ hw102_4)).trans hw102_4)⟩ (fun hHeld => ?_)
            clear hK K
            refine norm_ (a' := ?_) ?_ ?_
            rotate_left
            · show Act.put _ (some 28) _ = _
              simp only [Act.put, List.setIfInBounds_toArray, List.set_cons_zero, List.set_cons_succ, i64_w, i32_w]
              rfl
            refine pure_ (i := 8) (N := some 29) (v := ?_) (a' := ?_) #[true, true, true, true, true, true, true, true, true] rfl rfl (any_of HT_.out (by kernel_rfl)) (fun _ _ _ h => h) (Or.inl ⟨by rfl, ?_⟩) ?_ ?_
            rotate_left
            · intro w'
              go_simp
              with_reducible rfl
            rotate_left
            · simp only [Act.put, List.setIfInBounds_toArray, List.set_cons_zero, List.set_cons_succ, i64_w, i32_w]
              rfl
            refine done_ (done_of HT_.out (by kernel_rfl)) ?_
            go_upto_if 29 with (fail)
            have H := HC7.out
            clear HC7
            by_cases c10 : ((rd_T87 l0 x5_1).f1.f0).toList = t103.toList
            · rw [if_pos c10] at H
              have c10b0 : (((rd_T87 l0 x5_1).f1.f0).toList == t103.toList) = true := beq_iff_eq.mpr c10
              have c10b1 : (((rd_T87 l0 x5_1).f1.f0).toList != t103.toList) = false := bne_eq_false_iff_eq.mpr c10
              clear c10
              (first | rw [c10b0] | (simp only [i64_w, i32_w]; rw [c10b0]) | (simp only [c10b2, Bool.not_true, Bool.not_false]) | (simp only [c10b1, Bool.not_true, Bool.not_false]) | (simp only [c10b0, Bool.not_true, Bool.not_false]) | skip)
              replace H := Option.bind_eq_some_iff.mp H
              obtain ⟨t105, A110, H⟩ := H
              replace H : (if ((rd_T87 l0 x5_1).f1.f1.f0).toList = t105.toList then (if ((rd_T87 l0 x5_1).f1.f1.f1) = (wrap64 ((wrap64 ((wrap64 (x1_1 + 1)) + 1)) + 1)) then (if ((rd_T87 l0 x5_1).f1.f1.f2) = (wrap64 ((wrap64 ((wrap64 ((wrap64 (x1_1 + 1)) + 1)) + 1)) + 1)) then (laws_heldChangeS.l0 k1 l0 (wrap64 ((wrap64 ((wrap64 ((wrap64 ((wrap64 (x1_1 + 1)) + 1)) + 1)) + 1)) + 1)) (wrap64 (x5_1 + 1))) else (some (-1))) else (some (-1))) else (some (-1))) = some r := H
              have A11 := Aside0.mk A110
              clear A110
              have HC12 := Aside0.mk H
              clear H
              try go_wp2
              (try (rw [drewN_self w9]; generalize hq_ : World.drewN w9 _ = w9; have n0_ : Aside0 (Below w.heap.size w w9) := ⟨by rw [← hq_]; exact (by repeat (first | (with_reducible first | exact HB.out | apply below_alloc | apply pw_below_drewN | apply below_drew1) | exact HB.out))⟩; clear HB hq_; have HB := n0_; clear n0_))
              have n0_ := Aside0.mk (below_drew1 HB.out)
              clear HB
              have HB := n0_
              clear n0_
              have p104 : 0 ≤ (x5_1 : Int) := of_decide_eq_true (by first | (with_reducible assumption) | assumption)
              have q104 : x5_1 < (l0.length : Int) := of_decide_eq_true (by first | (with_reducible assumption) | assumption)
              obtain ⟨ad104, e104, hx104_0, hx104_1, hx104_2, hx104_3, hx104_4⟩ := at_T87 HR0.out x5_1 p104 q104
              have hw104_4 := hx104_4
              have hw104_3 := hx104_3
              have hw104_2 := hx104_2
              have hw104_1 := hx104_1
              have hw104_0 := hx104_0
              obtain rfl : ad101 = ad104 := (by injection e104)
              replace hx104_0 := (HB.out.cell (World.block_lt_of_cell? w _ hx104_0)).trans hx104_0
              replace hx104_1 := (HB.out.cell (World.block_lt_of_cell? w _ hx104_1)).trans hx104_1
              replace hx104_2 := (HB.out.cell (World.block_lt_of_cell? w _ hx104_2)).trans hx104_2
              replace hx104_3 := (HB.out.cell (World.block_lt_of_cell? w _ hx104_3)).trans hx104_3
              replace hx104_4 := (HB.out.cell (World.block_lt_of_cell? w _ hx104_4)).trans hx104_4
              replace p104 := eq_true p104
              replace q104 := eq_true q104
              refine start_ (n := 10) (S := fun w' => w'.cell? (ad101.add ((x5_1).toNat * 5)) = some (.int .i64 ((rd_T87 l0 x5_1).f0)) ∧ w'.cell? ⟨(ad101.add ((x5_1).toNat * 5)).block, (ad101.add ((x5_1).toNat * 5)).off + 1, none⟩ = some (.string ((rd_T87 l0 x5_1).f1.f0)) ∧ w'.cell? ⟨(ad101.add ((x5_1).toNat * 5)).block, (ad101.add ((x5_1).toNat * 5)).off + 2, none⟩ = some (.string ((rd_T87 l0 x5_1).f1.f1.f0)) ∧ w'.cell? ⟨(ad101.add ((x5_1).toNat * 5)).block, (ad101.add ((x5_1).toNat * 5)).off + 3, none⟩ = some (.int .i64 ((rd_T87 l0 x5_1).f1.f1.f1)) ∧ w'.cell? ⟨(ad101.add ((x5_1).toNat * 5)).block, (ad101.add ((x5_1).toNat * 5)).off + 4, none⟩ = some (.int .i64 ((rd_T87 l0 x5_1).f1.f1.f2))) (ds := []) #[false, false, false, false, false, false, false, false, false, false] (by kernel_rfl) rfl rfl ⟨((HB.out.cell (World.block_lt_of_cell? w _ hw104_0)).trans hw104_0), ((HB.out.cell (World.block_lt_of_cell? w _ hw104_1)).trans hw104_1), ((HB.out.cell (World.block_lt_of_cell? w _ hw104_2)).trans hw104_2), ((HB.out.cell (World.block_lt_of_cell? w _ hw104_3)).trans hw104_3), ((HB.out.cell (World.block_lt_of_cell? w _ hw104_4)).trans hw104_4)⟩ (fun hHeld => ?_); refine with_tabW laws_heldChangeS.tab10 laws_heldChangeS.bits10 (fun HT_ HW_ => ?_)
              generalize w9.drew = w13 at HB hx104_0 hx104_1 hx104_2 hx104_3 hx104_4 hHeld ⊢
              refine pure_ (i := 0) (N := some 32) (v := ?_) (a' := ?_) #[true, false, false, false, false, false, false, false, false, false] rfl rfl (any_of HT_.out (by kernel_rfl)) (fun _ _ _ h => h) (Or.inl ⟨by rfl, ?_⟩) ?_ ?_
              rotate_left
              · intro w'
                go_simp
                with_reducible rfl
              rotate_left
              · simp only [Act.put, List.setIfInBounds_toArray, List.set_cons_zero, List.set_cons_succ, i64_w, i32_w]
                rfl
              refine pure_ (i := 1) (N := some 33) (v := ?_) (a' := ?_) #[true, true, false, false, false, false, false, false, false, false] rfl rfl (any_of HT_.out (by kernel_rfl)) (fun _ _ _ h => h) (Or.inl ⟨by rfl, ?_⟩) ?_ ?_
              rotate_left
              · intro w'
                go_simp
                with_reducible rfl
              rotate_left
              · simp only [Act.put, List.setIfInBounds_toArray, List.set_cons_zero, List.set_cons_succ, i64_w, i32_w]
                rfl
              refine pure_ (i := 2) (N := some 34) (v := ?_) (a' := ?_) #[true, true, true, false, false, false, false, false, false, false] rfl rfl (any_of HT_.out (by kernel_rfl)) (fun _ _ _ h => h) (Or.inl ⟨by rfl, ?_⟩) ?_ ?_
              rotate_left
              · intro w'
                go_simp
                with_reducible rfl
              rotate_left
              · simp only [Act.put, List.setIfInBounds_toArray, List.set_cons_zero, List.set_cons_succ, i64_w, i32_w]
                rfl
              refine pure_ (i := 3) (N := some 35) (v := ?_) (a' := ?_) #[true, true, true, true, false, false, false, false, false, false] rfl rfl (any_of HT_.out (by kernel_rfl)) (fun _ _ _ h => h) (Or.inl ⟨by rfl, ?_⟩) ?_ ?_
              rotate_left
              · intro w'
                go_simp
                with_reducible rfl
              rotate_left
              · simp only [Act.put, List.setIfInBounds_toArray, List.set_cons_zero, List.set_cons_succ, i64_w, i32_w]
                rfl
              refine pure_ (i := 4) (N := some 36) (v := ?_) (a' := ?_) #[true, true, true, true, true, false, false, false, false, false] rfl rfl (any_of HT_.out (by kernel_rfl)) (fun _ _ _ h => h) (Or.inl ⟨by rfl, ?_⟩) ?_ ?_
              rotate_left
              · intro w'
                go_simp
                with_reducible rfl
              rotate_left
              · simp only [Act.put, List.setIfInBounds_toArray, List.set_cons_zero, List.set_cons_succ, i64_w, i32_w]
                rfl
              refine pure_ (i := 5) (N := some 37) (v := ?_) (a' := ?_) #[true, true, true, true, true, true, false, false, false, false] rfl rfl (any_of HT_.out (by kernel_rfl)) (fun _ _ _ h => h) (Or.inl ⟨by rfl, ?_⟩) ?_ ?_
              rotate_left
              · intro w'
                go_simp
                with_reducible rfl
              rotate_left
              · simp only [Act.put, List.setIfInBounds_toArray, List.set_cons_zero, List.set_cons_succ, i64_w, i32_w]
                rfl
              refine pure_ (i := 7) (N := some 39) (v := ?_) (a' := ?_) #[true, true, true, true, true, true, false, true, false, false] rfl rfl (any_of HT_.out (by kernel_rfl)) (fun _ _ _ h => h) (Or.inl ⟨by rfl, ?_⟩) ?_ ?_
              rotate_left
              · intro w'
                go_simp
                with_reducible rfl
              rotate_left
              · simp only [Act.put, List.setIfInBounds_toArray, List.set_cons_zero, List.set_cons_succ, i64_w, i32_w]
                rfl
              refine take_ (i := 6) (N := some 38) (v := ?_) (a' := ?_) #[true, true, true, true, true, true, true, true, false, false] rfl rfl (take_ofW HT_.out HW_.out (by kernel_rfl)) (fun _ _ _ h => h) (Or.inl ⟨by rfl, ?_⟩) hHeld ?_ ?_
              rotate_left
              · rintro w' ⟨s0, s1, s2, s3, s4⟩
                go_simp
                with_reducible rfl
              rotate_left
              · simp only [Act.put, List.setIfInBounds_toArray, List.set_cons_zero, List.set_cons_succ, i64_w, i32_w]
                rfl
              refine one_ (i := 8) (N := some 40) #[true, true, true, true, true, true, true, true, true, false] rfl rfl (one_of HT_.out (by kernel_rfl)) (by decide) (fun K hK => ?_)
              (first | refine goes_ Try.func70 (by kernel_rfl) rfl #[.int .i64 (wrap64 ((wrap64 (x1_1 + 1)) + 1))] (by rfl) rfl rfl (by (try simp only [List.map_toArray, List.map_cons, List.map_nil]); first | done | rfl | (simp only [List.length_drop, List.length_take]; rfl)) ?_ | refine RPW.goesV_ Try.func70 (by kernel_rfl) rfl #[.int .i64 (wrap64 ((wrap64 (x1_1 + 1)) + 1))] (by rfl) rfl rfl rfl (by (try simp only [List.map_toArray, List.map_cons, List.map_nil]); first | done | rfl | (simp only [List.length_drop, List.length_take]; rfl)) ?_)
              with_reducible refine (laws_markText.calls k1 (wrap64 ((wrap64 (x1_1 + 1)) + 1)) t105 _ A11.out).mono ?_
              rintro e w14 ⟨rfl, hb⟩
              refine ⟨_, rfl, ?_⟩
              have n0_ := Aside0.mk (below_step (by repeat (first | (with_reducible first | exact HB.out | apply below_alloc | apply pw_below_drewN | apply below_drew1) | exact HB.out)) hb)
              clear HB
              have HB := n0_
              clear n0_
              (try clear hb)
              (try clear hb2)
              (try clear hk)
              (try clear hi)
              refine hK.out _ _ ⟨((HB.out.cell (World.block_lt_of_cell? w _ hw104_0)).trans hw104_0), ((HB.out.cell (World.block_lt_of_cell? w _ hw104_1)).trans hw104_1), ((HB.out.cell (World.block_lt_of_cell? w _ hw104_2)).trans hw104_2), ((HB.out.cell (World.block_lt_of_cell? w _ hw104_3)).trans hw104_3), ((HB.out.cell (World.block_lt_of_cell? w _ hw104_4)).trans hw104_4)⟩ (fun hHeld => ?_)
              clear hK K
              refine norm_ (a' := ?_) ?_ ?_
              rotate_left
              · show Act.put _ (some 40) _ = _
                simp only [Act.put, List.setIfInBounds_toArray, List.set_cons_zero, List.set_cons_succ, i64_w, i32_w]
                rfl
              refine pure_ (i := 9) (N := some 41) (v := ?_) (a' := ?_) #[true, true, true, true, true, true, true, true, true, true] rfl rfl (any_of HT_.out (by kernel_rfl)) (fun _ _ _ h => h) (Or.inl ⟨by rfl, ?_⟩) ?_ ?_
              rotate_left
              · intro w'
                go_simp
                with_reducible rfl
              rotate_left
              · simp only [Act.put, List.setIfInBounds_toArray, List.set_cons_zero, List.set_cons_succ, i64_w, i32_w]
                rfl
              refine done_ (done_of HT_.out (by kernel_rfl)) ?_
              go_upto_if 41 with (fail)
              have H := HC12.out
              clear HC12
              by_cases c15 : ((rd_T87 l0 x5_1).f1.f1.f0).toList = t105.toList
              · rw [if_pos c15] at H
                have c15b0 : (((rd_T87 l0 x5_1).f1.f1.f0).toList == t105.toList) = true := beq_iff_eq.mpr c15
                have c15b1 : (((rd_T87 l0 x5_1).f1.f1.f0).toList != t105.toList) = false := bne_eq_false_iff_eq.mpr c15
                clear c15
                (first | rw [c15b0] | (simp only [i64_w, i32_w]; rw [c15b0]) | (simp only [c15b2, Bool.not_true, Bool.not_false]) | (simp only [c15b1, Bool.not_true, Bool.not_false]) | (simp only [c15b0, Bool.not_true, Bool.not_false]) | skip)
                by_cases c16 : ((rd_T87 l0 x5_1).f1.f1.f1) = (wrap64 ((wrap64 ((wrap64 (x1_1 + 1)) + 1)) + 1))
                · rw [if_pos c16] at H
                  have c16b0 : (((rd_T87 l0 x5_1).f1.f1.f1) == (wrap64 ((wrap64 ((wrap64 (x1_1 + 1)) + 1)) + 1))) = true := beq_iff_eq.mpr c16
                  have c16b1 : (((rd_T87 l0 x5_1).f1.f1.f1) != (wrap64 ((wrap64 ((wrap64 (x1_1 + 1)) + 1)) + 1))) = false := bne_eq_false_iff_eq.mpr c16
                  clear c16
                  by_cases c17 : ((rd_T87 l0 x5_1).f1.f1.f2) = (wrap64 ((wrap64 ((wrap64 ((wrap64 (x1_1 + 1)) + 1)) + 1)) + 1))
                  · rw [if_pos c17] at H
                    have c17b0 : (((rd_T87 l0 x5_1).f1.f1.f2) == (wrap64 ((wrap64 ((wrap64 ((wrap64 (x1_1 + 1)) + 1)) + 1)) + 1))) = true := beq_iff_eq.mpr c17
                    have c17b1 : (((rd_T87 l0 x5_1).f1.f1.f2) != (wrap64 ((wrap64 ((wrap64 ((wrap64 (x1_1 + 1)) + 1)) + 1)) + 1))) = false := bne_eq_false_iff_eq.mpr c17
                    clear c17
                    have H' := Aside0.mk H
                    clear H
                    have p106 : 0 ≤ (x5_1 : Int) := of_decide_eq_true (by first | (with_reducible assumption) | assumption)
                    have q106 : x5_1 < (l0.length : Int) := of_decide_eq_true (by first | (with_reducible assumption) | assumption)
                    obtain ⟨ad106, e106, hx106_0, hx106_1, hx106_2, hx106_3, hx106_4⟩ := at_T87 HR0.out x5_1 p106 q106
                    obtain rfl : ad101 = ad106 := (by injection e106)
                    replace hx106_0 := (HB.out.cell (World.block_lt_of_cell? w _ hx106_0)).trans hx106_0
                    replace hx106_1 := (HB.out.cell (World.block_lt_of_cell? w _ hx106_1)).trans hx106_1
                    replace hx106_2 := (HB.out.cell (World.block_lt_of_cell? w _ hx106_2)).trans hx106_2
                    replace hx106_3 := (HB.out.cell (World.block_lt_of_cell? w _ hx106_3)).trans hx106_3
                    replace hx106_4 := (HB.out.cell (World.block_lt_of_cell? w _ hx106_4)).trans hx106_4
                    replace p106 := eq_true p106
                    replace q106 := eq_true q106
                    have p107 : 0 ≤ (x5_1 : Int) := of_decide_eq_true (by first | (with_reducible assumption) | assumption)
                    have q107 : x5_1 < (l0.length : Int) := of_decide_eq_true (by first | (with_reducible assumption) | assumption)
                    obtain ⟨ad107, e107, hx107_0, hx107_1, hx107_2, hx107_3, hx107_4⟩ := at_T87 HR0.out x5_1 p107 q107
                    obtain rfl : ad101 = ad107 := (by injection e107)
                    replace hx107_0 := (HB.out.cell (World.block_lt_of_cell? w _ hx107_0)).trans hx107_0
                    replace hx107_1 := (HB.out.cell (World.block_lt_of_cell? w _ hx107_1)).trans hx107_1
                    replace hx107_2 := (HB.out.cell (World.block_lt_of_cell? w _ hx107_2)).trans hx107_2
                    replace hx107_3 := (HB.out.cell (World.block_lt_of_cell? w _ hx107_3)).trans hx107_3
                    replace hx107_4 := (HB.out.cell (World.block_lt_of_cell? w _ hx107_4)).trans hx107_4
                    replace p107 := eq_true p107
                    replace q107 := eq_true q107
                    go_wp2
                    go_roundg k1
                    case measure => have := HK1.out; omega
                    case rel => exact ⟨(wrap64 ((wrap64 ((wrap64 ((wrap64 ((wrap64 (x1_1 + 1)) + 1)) + 1)) + 1)) + 1)), (wrap64 (x5_1 + 1)), (by first | rfl | (simp; done) | (simp [*]; done)), (by first | rfl | (simp; done) | (simp [*]; done)), H', ⟨by have := HK1.out; omega⟩, ⟨by repeat (first | (with_reducible first | exact HB.out | apply below_alloc | apply pw_below_drewN | apply below_drew1) | exact HB.out)⟩⟩
                  · rw [if_neg c17] at H
                    have c17b0 : (((rd_T87 l0 x5_1).f1.f1.f2) == (wrap64 ((wrap64 ((wrap64 ((wrap64 (x1_1 + 1)) + 1)) + 1)) + 1))) = false := beq_eq_false_iff_ne.mpr c17
                    have c17b1 : (((rd_T87 l0 x5_1).f1.f1.f2) != (wrap64 ((wrap64 ((wrap64 ((wrap64 (x1_1 + 1)) + 1)) + 1)) + 1))) = true := bne_iff_ne.mpr c17
                    obtain rfl := Option.some.inj H
                    have p106 : 0 ≤ (x5_1 : Int) := of_decide_eq_true (by first | (with_reducible assumption) | assumption)
                    have q106 : x5_1 < (l0.length : Int) := of_decide_eq_true (by first | (with_reducible assumption) | assumption)
                    obtain ⟨ad106, e106, hx106_0, hx106_1, hx106_2, hx106_3, hx106_4⟩ := at_T87 HR0.out x5_1 p106 q106
                    obtain rfl : ad101 = ad106 := (by injection e106)
                    replace hx106_0 := (HB.out.cell (World.block_lt_of_cell? w _ hx106_0)).trans hx106_0
                    replace hx106_1 := (HB.out.cell (World.block_lt_of_cell? w _ hx106_1)).trans hx106_1
                    replace hx106_2 := (HB.out.cell (World.block_lt_of_cell? w _ hx106_2)).trans hx106_2
                    replace hx106_3 := (HB.out.cell (World.block_lt_of_cell? w _ hx106_3)).trans hx106_3
                    replace hx106_4 := (HB.out.cell (World.block_lt_of_cell? w _ hx106_4)).trans hx106_4
                    replace p106 := eq_true p106
                    replace q106 := eq_true q106
                    have p107 : 0 ≤ (x5_1 : Int) := of_decide_eq_true (by first | (with_reducible assumption) | assumption)
                    have q107 : x5_1 < (l0.length : Int) := of_decide_eq_true (by first | (with_reducible assumption) | assumption)
                    obtain ⟨ad107, e107, hx107_0, hx107_1, hx107_2, hx107_3, hx107_4⟩ := at_T87 HR0.out x5_1 p107 q107
                    obtain rfl : ad101 = ad107 := (by injection e107)
                    replace hx107_0 := (HB.out.cell (World.block_lt_of_cell? w _ hx107_0)).trans hx107_0
                    replace hx107_1 := (HB.out.cell (World.block_lt_of_cell? w _ hx107_1)).trans hx107_1
                    replace hx107_2 := (HB.out.cell (World.block_lt_of_cell? w _ hx107_2)).trans hx107_2
                    replace hx107_3 := (HB.out.cell (World.block_lt_of_cell? w _ hx107_3)).trans hx107_3
                    replace hx107_4 := (HB.out.cell (World.block_lt_of_cell? w _ hx107_4)).trans hx107_4
                    replace p107 := eq_true p107
                    replace q107 := eq_true q107
                    go_wp2
                    go_ret
                    exact ⟨by first | rfl | (simp [errW_none, errW_some] <;> rfl) | (simp [*, errW_none, errW_some] <;> rfl), by repeat (first | (with_reducible first | exact HB.out | apply below_alloc | apply pw_below_drewN | apply below_drew1) | exact HB.out)⟩
                · rw [if_neg c16] at H
                  have c16b0 : (((rd_T87 l0 x5_1).f1.f1.f1) == (wrap64 ((wrap64 ((wrap64 (x1_1 + 1)) + 1)) + 1))) = false := beq_eq_false_iff_ne.mpr c16
                  have c16b1 : (((rd_T87 l0 x5_1).f1.f1.f1) != (wrap64 ((wrap64 ((wrap64 (x1_1 + 1)) + 1)) + 1))) = true := bne_iff_ne.mpr c16
                  obtain rfl := Option.some.inj H
                  have p106 : 0 ≤ (x5_1 : Int) := of_decide_eq_true (by first | (with_reducible assumption) | assumption)
                  have q106 : x5_1 < (l0.length : Int) := of_decide_eq_true (by first | (with_reducible assumption) | assumption)
                  obtain ⟨ad106, e106, hx106_0, hx106_1, hx106_2, hx106_3, hx106_4⟩ := at_T87 HR0.out x5_1 p106 q106
                  obtain rfl : ad101 = ad106 := (by injection e106)
                  replace hx106_0 := (HB.out.cell (World.block_lt_of_cell? w _ hx106_0)).trans hx106_0
                  replace hx106_1 := (HB.out.cell (World.block_lt_of_cell? w _ hx106_1)).trans hx106_1
                  replace hx106_2 := (HB.out.cell (World.block_lt_of_cell? w _ hx106_2)).trans hx106_2
                  replace hx106_3 := (HB.out.cell (World.block_lt_of_cell? w _ hx106_3)).trans hx106_3
                  replace hx106_4 := (HB.out.cell (World.block_lt_of_cell? w _ hx106_4)).trans hx106_4
                  replace p106 := eq_true p106
                  replace q106 := eq_true q106
                  go_wp2
                  go_ret
                  exact ⟨by first | rfl | (simp [errW_none, errW_some] <;> rfl) | (simp [*, errW_none, errW_some] <;> rfl), by repeat (first | (with_reducible first | exact HB.out | apply below_alloc | apply pw_below_drewN | apply below_drew1) | exact HB.out)⟩
              · rw [if_neg c15] at H
                have c15b0 : (((rd_T87 l0 x5_1).f1.f1.f0).toList == t105.toList) = false := beq_eq_false_iff_ne.mpr c15
                have c15b1 : (((rd_T87 l0 x5_1).f1.f1.f0).toList != t105.toList) = true := bne_iff_ne.mpr c15
                (first | rw [c15b0] | (simp only [i64_w, i32_w]; rw [c15b0]) | (simp only [c15b2, Bool.not_true, Bool.not_false]) | (simp only [c15b1, Bool.not_true, Bool.not_false]) | (simp only [c15b0, Bool.not_true, Bool.not_false]) | skip)
                obtain rfl := Option.some.inj H
                go_wp2
                go_ret
                exact ⟨by first | rfl | (simp [errW_none, errW_some] <;> rfl) | (simp [*, errW_none, errW_some] <;> rfl), by repeat (first | (with_reducible first | exact HB.out | apply below_alloc | apply pw_below_drewN | apply below_drew1) | exact HB.out)⟩
            · rw [if_neg c10] at H
              have c10b0 : (((rd_T87 l0 x5_1).f1.f0).toList == t103.toList) = false := beq_eq_false_iff_ne.mpr c10
              have c10b1 : (((rd_T87 l0 x5_1).f1.f0).toList != t103.toList) = true := bne_iff_ne.mpr c10
              (first | rw [c10b0] | (simp only [i64_w, i32_w]; rw [c10b0]) | (simp only [c10b2, Bool.not_true, Bool.not_false]) | (simp only [c10b1, Bool.not_true, Bool.not_false]) | (simp only [c10b0, Bool.not_true, Bool.not_false]) | skip)
              obtain rfl := Option.some.inj H
              go_wp2
              go_ret
              exact ⟨by first | rfl | (simp [errW_none, errW_some] <;> rfl) | (simp [*, errW_none, errW_some] <;> rfl), by repeat (first | (with_reducible first | exact HB.out | apply below_alloc | apply pw_below_drewN | apply below_drew1) | exact HB.out)⟩
          · rw [if_neg c5] at H
            have c5b0 : (((rd_T87 l0 x5_1).f0) == x1_1) = false := beq_eq_false_iff_ne.mpr c5
            have c5b1 : (((rd_T87 l0 x5_1).f0) != x1_1) = true := bne_iff_ne.mpr c5
            obtain rfl := Option.some.inj H
            have p101 : 0 ≤ (x5_1 : Int) := of_decide_eq_true (by first | (with_reducible assumption) | assumption)
            have q101 : x5_1 < (l0.length : Int) := of_decide_eq_true (by first | (with_reducible assumption) | assumption)
            obtain ⟨ad101, e101, hx101_0, hx101_1, hx101_2, hx101_3, hx101_4⟩ := at_T87 HR0.out x5_1 p101 q101
            cases e101
            replace hx101_0 := (HB.out.cell (World.block_lt_of_cell? w _ hx101_0)).trans hx101_0
            replace hx101_1 := (HB.out.cell (World.block_lt_of_cell? w _ hx101_1)).trans hx101_1
            replace hx101_2 := (HB.out.cell (World.block_lt_of_cell? w _ hx101_2)).trans hx101_2
            replace hx101_3 := (HB.out.cell (World.block_lt_of_cell? w _ hx101_3)).trans hx101_3
            replace hx101_4 := (HB.out.cell (World.block_lt_of_cell? w _ hx101_4)).trans hx101_4
            replace p101 := eq_true p101
            replace q101 := eq_true q101
            go_wp2
            go_ret
            exact ⟨by first | rfl | (simp [errW_none, errW_some] <;> rfl) | (simp [*, errW_none, errW_some] <;> rfl), by repeat (first | (with_reducible first | exact HB.out | apply below_alloc | apply pw_below_drewN | apply below_drew1) | exact HB.out)⟩
        · rw [if_neg c4] at H
          exact absurd H (by simp)
      · rw [if_neg c3] at H
        have c3b0 : decide (x5_1 < (l0.length : Int)) = false := decide_eq_false c3
        clear c3
        obtain rfl := Option.some.inj H
        go_wp2
        go_ret
        exact ⟨by first | rfl | (simp [errW_none, errW_some] <;> rfl) | (simp [*, errW_none, errW_some] <;> rfl), by repeat (first | (with_reducible first | exact HB.out | apply below_alloc | apply pw_below_drewN | apply below_drew1) | exact HB.out)⟩
end Go.Proofs.Ythnigkbbmhnafaa.Q
namespace Go.Proofs.Ythnigkbbmhnafaa.Q
open Go.RowKit Go.Proofs.YthnigkbbmhnafaaW.PrintWords Go.Proofs.YthnigkbbmhnafaaW.PrintLast Go.Proofs.YthnigkbbmhnafaaW.PrintMore
set_option linter.unusedVariables false
set_option linter.unusedSimpArgs false
def Z_Veneer (x : S66) : Nat := x.f0.size
theorem sz_Veneer (x : S66) (hw : W66 x) (c : Int) (h0 : 0 ≤ c) (h1 : c ≤ 1048576) : Ev (fun k => laws_szVeneer.f (x.f0) (x.f1) (x.f2) c) (cut c (Z_Veneer x)) := by
  have hM : maxLen = 9223372036854775807 := by decide
  unfold W66 at hw
  obtain ⟨w0, w1, w2⟩ := hw
  simp only [laws_szVeneer.f]
  have b0 : x.f0.size ≤ maxLen := w0
  rw [hM] at b0
  have e0 : wrap64 (c - ((x.f0.size : Nat) : Int)) = c - ((x.f0.size : Nat) : Int) := wr64 (by omega) (by omega)
  simp only [e0]
  by_cases g0 : c - ((x.f0.size : Nat) : Int) < 0
  · rw [cut_neg (by unfold Z_Veneer; omega)]; exact Ev_t g0 (Ev_n rfl)
  refine Ev_f g0 ?_
  obtain ⟨c0, hc0⟩ : ∃ z_, z_ = c - ((x.f0.size : Nat) : Int) := ⟨_, rfl⟩
  simp only [← hc0]
  rw [cut_pos (by unfold Z_Veneer; omega)]
  exact Ev_n (by unfold Z_Veneer; omega)
def conv_Veneer (x : S66) : S69 := ⟨x.f0, x.f1, x.f2⟩
def B_Veneer (x : S66) : Prop := True
theorem B_of_Veneer (x : S66) (h : (Z_Veneer x : Int) ≤ 1048576) : B_Veneer x := by
  unfold Z_Veneer at h
  unfold B_Veneer
  trivial
theorem to_Veneer (x : S66) (hb : B_Veneer x) : Ev (fun k => laws_toVeneer.f (x.f0) (x.f1) (x.f2)) ((conv_Veneer x).f0, (conv_Veneer x).f1, (conv_Veneer x).f2) := by
  unfold B_Veneer at hb
  simp only [laws_toVeneer.f]
  exact Ev_n rfl
def E_Veneer (x : S69) : Prop := True
theorem E_of_Veneer (x : S66) (hb : B_Veneer x) : E_Veneer (conv_Veneer x) := by
  unfold B_Veneer at hb
  unfold E_Veneer
  exact trivial
theorem eq_Veneer (x : S69) (he : E_Veneer x) : Ev (fun k => laws_eqVeneer.f (x.f0) (x.f1) (x.f2) (x.f0) (x.f1) (x.f2)) true := by
  unfold E_Veneer at he
  simp only [laws_eqVeneer.f, if_true]
  exact Ev_n rfl
theorem rdl_Entry (l : List S68) (i : Nat) (h : i < l.length) : rd_T68 l (i : Int) = l[i] := by unfold rd_T68; exact getD_in l _ i h
theorem rdi_Entry (l : List S71) (i : Nat) (h : i < l.length) : rd_T71 l (i : Int) = l[i] := by unfold rd_T71; exact getD_in l _ i h
theorem rda_Entry (a b : List S71) (x : S71) (i : Nat) (h : a.length = i) : rd_T71 (a ++ x :: b) (i : Int) = x := by unfold rd_T71; exact getD_at a b _ x i h
def Z_Entry (x : S68) : Nat := x.f0.size + (Z_Veneer x.f1)
def ZS_Entry (l : List S68) : Nat := l.length + (l.map Z_Entry).sum
theorem ZS_in_Entry (l : List S68) : l.length ≤ ZS_Entry l ∧ ∀ y ∈ l, Z_Entry y ≤ ZS_Entry l := ⟨by unfold ZS_Entry; omega, fun y hy => by have := sum_le Z_Entry l y hy; unfold ZS_Entry; omega⟩
theorem sz_Entry (x : S68) (hw : W68 x) (c : Int) (h0 : 0 ≤ c) (h1 : c ≤ 1048576) : Ev (fun k => laws_szEntry.f (x.f0) (x.f1.f0) (x.f1.f1) (x.f1.f2) c) (cut c (Z_Entry x)) := by
  have hM : maxLen = 9223372036854775807 := by decide
  unfold W68 at hw
  obtain ⟨w0, w1⟩ := hw
  simp only [laws_szEntry.f]
  have b0 : x.f0.size ≤ maxLen := w0
  rw [hM] at b0
  have e0 : wrap64 (c - ((x.f0.size : Nat) : Int)) = c - ((x.f0.size : Nat) : Int) := wr64 (by omega) (by omega)
  simp only [e0]
  by_cases g0 : c - ((x.f0.size : Nat) : Int) < 0
  · rw [cut_neg (by unfold Z_Entry; omega)]; exact Ev_t g0 (Ev_n rfl)
  refine Ev_f g0 ?_
  obtain ⟨c0, hc0⟩ : ∃ z_, z_ = c - ((x.f0.size : Nat) : Int) := ⟨_, rfl⟩
  simp only [← hc0]
  refine Ev_b (sz_Veneer x.f1 w1 c0 (by omega) (by omega)) ?_
  by_cases g1 : (((Z_Veneer x.f1) : Nat) : Int) ≤ c0
  case neg => rw [cut_neg g1, cut_neg (by unfold Z_Entry; omega)]; exact Ev_t (by decide) (Ev_n rfl)
  rw [cut_pos g1]
  refine Ev_f (by omega) ?_
  obtain ⟨c1, hc1⟩ : ∃ z_, z_ = c0 - (((Z_Veneer x.f1) : Nat) : Int) := ⟨_, rfl⟩
  simp only [← hc1]
  rw [cut_pos (by unfold Z_Entry; omega)]
  exact Ev_n (by unfold Z_Entry; omega)
theorem szS_Entry (l : List S68) (hl : l.length ≤ maxLen) (hw : ∀ y ∈ l, W68 y) (c : Int) (h0 : 0 ≤ c) (h1 : c ≤ 1048576) : Ev (fun k => laws_szEntryS.f k l c) (cut c (ZS_Entry l)) := by
  have hM : maxLen = 9223372036854775807 := by decide
  rw [hM] at hl
  have go : ∀ (d i : Nat) (c : Int), i + d = l.length → l.length ≤ 1048576 → 0 ≤ c → c ≤ 1048576 → Ev (fun k => laws_szEntryS.l0 k l c i) (cut c (((l.drop i).map Z_Entry).sum : Nat)) := by
    intro d
    induction d with
    | zero =>
      intro i c q1 q2 q3 q4
      refine Ev_suc ?_
      simp only [laws_szEntryS.l0]
      rw [List.drop_of_length_le (by omega), cut_pos (by simpa using q3)]
      exact Ev_f (by omega) (Ev_n (by simp))
    | succ d ih =>
      intro i c q1 q2 q3 q4
      refine Ev_suc ?_
      simp only [laws_szEntryS.l0]
      refine Ev_t (by omega) (Ev_t (by omega) ?_)
      rw [rdl_Entry l i (by omega)]
      refine Ev_b (sz_Entry l[i] (hw _ (List.getElem_mem _)) c q3 q4) ?_
      rw [List.drop_eq_getElem_cons (show i < l.length by omega), List.map_cons, List.sum_cons]
      by_cases g : ((Z_Entry l[i] : Nat) : Int) ≤ c
      case neg => rw [cut_neg g, cut_neg (by omega)]; exact Ev_t (by decide) (Ev_n rfl)
      rw [cut_pos g]
      refine Ev_f (by omega) ?_
      rw [wr64s i (by omega)]
      refine Ev_at (ih (i + 1) _ (by omega) q2 (by omega) (by omega)) ?_
      unfold cut
      split <;> split <;> omega
  simp only [laws_szEntryS.f]
  rw [wr64 (x := c - (l.length : Int)) (by omega) (by omega)]
  by_cases g : c - (l.length : Int) < 0
  · rw [cut_neg (by unfold ZS_Entry; omega)]
    exact Ev_t g (Ev_n rfl)
  · refine Ev_f g (Ev_at (go l.length 0 _ (by omega) (by omega) (by omega) (by omega)) ?_)
    rw [List.drop_zero]
    unfold cut ZS_Entry
    split <;> split <;> omega
def conv_Entry (x : S68) : S71 := ⟨x.f0, (conv_Veneer x.f1)⟩
def B_Entry (x : S68) : Prop := B_Veneer x.f1
theorem B_of_Entry (x : S68) (h : (Z_Entry x : Int) ≤ 1048576) : B_Entry x := by
  unfold Z_Entry at h
  unfold B_Entry
  exact B_of_Veneer x.f1 (by omega)
theorem to_Entry (x : S68) (hb : B_Entry x) : Ev (fun k => laws_toEntry.f (x.f0) (x.f1.f0) (x.f1.f1) (x.f1.f2)) ((conv_Entry x).f0, (conv_Entry x).f1.f0, (conv_Entry x).f1.f1, (conv_Entry x).f1.f2) := by
  unfold B_Entry at hb
  simp only [laws_toEntry.f]
  refine Ev_b (to_Veneer x.f1 hb) ?_
  exact Ev_n rfl
theorem toS_Entry (l : List S68) (hl : (l.length : Int) ≤ 1048576) (hb : ∀ y ∈ l, B_Entry y) : Ev (fun k => laws_toEntryS.f k l) (l.map conv_Entry) := by
  have go : ∀ (d i : Nat) (xs : List S71), i + d = l.length → xs.length = l.length → xs.take i = (l.map conv_Entry).take i → Ev (fun k => laws_toEntryS.l0 k l xs i) (l.map conv_Entry) := by
    intro d
    induction d with
    | zero =>
      intro i xs q1 q2 q3
      refine Ev_suc ?_
      simp only [laws_toEntryS.l0]
      rw [List.take_of_length_le (by omega), List.take_of_length_le (by simp; omega)] at q3
      rw [q3]
      exact Ev_f (by omega) (Ev_n rfl)
    | succ d ih =>
      intro i xs q1 q2 q3
      refine Ev_suc ?_
      simp only [laws_toEntryS.l0]
      refine Ev_t (by omega) (Ev_t (by omega) ?_)
      rw [rdl_Entry l i (by omega)]
      refine Ev_b (to_Entry l[i] (hb _ (List.getElem_mem _))) ?_
      refine Ev_t (by omega) ?_
      rw [wr64s i (by omega), Int.toNat_natCast]
      refine ih (i + 1) _ (by omega) (by rw [List.length_set]; exact q2) ?_
      rw [set_take' _ _ _ (by omega), q3, List.take_succ_eq_append_getElem (by simp; omega)]
      simp [conv_Entry]
  simp only [laws_toEntryS.f]
  refine Ev_t (by omega) (Ev_t (by omega) ?_)
  exact go l.length 0 _ (by omega) (by simp) (by simp)
def E_Entry (x : S71) : Prop := E_Veneer x.f1
theorem E_of_Entry (x : S68) (hb : B_Entry x) : E_Entry (conv_Entry x) := by
  unfold B_Entry at hb
  unfold E_Entry
  exact E_of_Veneer _ hb
theorem eq_Entry (x : S71) (he : E_Entry x) : Ev (fun k => laws_eqEntry.f (x.f0) (x.f1.f0) (x.f1.f1) (x.f1.f2) (x.f0) (x.f1.f0) (x.f1.f1) (x.f1.f2)) true := by
  unfold E_Entry at he
  simp only [laws_eqEntry.f, if_true]
  refine Ev_b (eq_Veneer x.f1 he) ?_
  simp only [if_true]
  exact Ev_n rfl
theorem eqS_Entry (m : List S71) (hl : (m.length : Int) ≤ 1048576) (he : ∀ y ∈ m, E_Entry y) : Ev (fun k => laws_eqEntryS.f k m m) true := by
  have go : ∀ (d i : Nat), i + d = m.length → Ev (fun k => laws_eqEntryS.l0 k m m i) true := by
    intro d
    induction d with
    | zero =>
      intro i q1
      refine Ev_suc ?_
      simp only [laws_eqEntryS.l0]
      exact Ev_f (by omega) (Ev_n rfl)
    | succ d ih =>
      intro i q1
      refine Ev_suc ?_
      simp only [laws_eqEntryS.l0]
      refine Ev_t (by omega) (Ev_t (by omega) (Ev_t (by omega) ?_))
      rw [rdi_Entry m i (by omega)]
      refine Ev_b (eq_Entry m[i] (he _ (List.getElem_mem _))) ?_
      rw [wr64s i (by omega)]
      exact Ev_t rfl (ih (i + 1) (by omega))
  simp only [laws_eqEntryS.f]
  exact Ev_t (by first | trivial | rfl) (go m.length 0 (by omega))
theorem mk_Entry (l : List S71) (c : Int) (h0 : 0 ≤ c) (h1 : c ≤ 1000000000000) (hl : (l.length : Int) ≤ 1000000000000) : ∃ l', l'.length = l.length ∧ Ev (fun k => laws_markEntryS.f k l c) (c + 4 * l.length, l') ∧ Ev (fun k => laws_heldEntryS.f k l' c) (c + 4 * l.length) := by
  have go : ∀ (q p : List S71) (i : Nat) (c : Int), p.length = i → 0 ≤ c → c + 4 * q.length ≤ 100000000000000000 → (i : Int) + q.length ≤ 1000000000000 → ∃ q', q'.length = q.length ∧ Ev (fun k => laws_markEntryS.l0 k (p ++ q) c i) (c + 4 * q.length, p ++ q') ∧ ∀ r : List S71, r.length = i → Ev (fun k => laws_heldEntryS.l0 k (r ++ q') c i) (c + 4 * q.length) := by
    intro q
    induction q with
    | nil =>
      intro p i c q1 q2 q3 q4
      refine ⟨[], rfl, Ev_suc ?_, fun r hr => Ev_suc ?_⟩
      · simp only [laws_markEntryS.l0]
        exact Ev_f (by simp; omega) (Ev_n (by simp))
      · simp only [laws_heldEntryS.l0]
        exact Ev_f (by simp; omega) (Ev_n (by simp))
    | cons x q ih =>
      intro p i c q1 q2 q3 q4
      simp only [List.length_cons] at q3 q4
      have e0 : wrap64 (c + 1) = c + 1 := (wr64 (by omega) (by omega)).trans (by omega)
      have e1 : wrap64 (c + 1 + 1) = c + 2 := (wr64 (by omega) (by omega)).trans (by omega)
      have e2 : wrap64 (c + 2 + 1) = c + 3 := (wr64 (by omega) (by omega)).trans (by omega)
      have e3 : wrap64 (c + 3 + 1) = c + 4 := (wr64 (by omega) (by omega)).trans (by omega)
      obtain ⟨t0, ht0⟩ := markText_ev (c) (by omega) (by omega)
      obtain ⟨t1, ht1⟩ := markText_ev (c + 1) (by omega) (by omega)
      obtain ⟨q', hq, hm, hh⟩ := ih (p ++ [(⟨t0, (⟨t1, c + 2, c + 3⟩ : S69)⟩ : S71)]) (i + 1) (c + 4) (by simp; omega) (by omega) (by omega) (by omega)
      refine ⟨(⟨t0, (⟨t1, c + 2, c + 3⟩ : S69)⟩ : S71) :: q', by simp [hq], Ev_suc ?_, fun r hr => Ev_suc ?_⟩
      · simp only [laws_markEntryS.l0, e0, e1, e2, e3, set_at p q _ _ i q1, rda_Entry p q _ i q1]
        refine Ev_t (by simp; omega) ?_
        refine Ev_b ht0 ?_
        refine Ev_t (by omega) ?_
        refine Ev_s ?_
        try simp only [e0, e1, e2, e3, set_at p q _ _ i q1, rda_Entry p q _ i q1]
        refine Ev_b ht1 ?_
        refine Ev_s ?_
        try simp only [e0, e1, e2, e3, set_at p q _ _ i q1, rda_Entry p q _ i q1]
        refine Ev_s ?_
        try simp only [e0, e1, e2, e3, set_at p q _ _ i q1, rda_Entry p q _ i q1]
        try simp only [e0, e1, e2, e3, set_at p q _ _ i q1, rda_Entry p q _ i q1]
        rw [wr64s i (by omega)]
        have hm' := hm
        rw [List.append_assoc, List.singleton_append, List.append_assoc, List.singleton_append] at hm'
        exact Ev_at hm' (by simp only [List.length_cons, Prod.mk.injEq, and_true]; omega)
      · simp only [laws_heldEntryS.l0, e0, e1, e2, e3, rda_Entry r q' _ i hr]
        refine Ev_t (by simp; omega) ?_
        refine Ev_t (by omega) ?_
        refine Ev_b ht0 ?_
        refine Ev_t (by first | rfl | exact True.intro | omega) ?_
        refine Ev_b ht1 ?_
        refine Ev_t (by first | rfl | exact True.intro | omega) ?_
        refine Ev_t (by first | rfl | exact True.intro | omega) ?_
        refine Ev_t (by first | rfl | exact True.intro | omega) ?_
        rw [wr64s i (by omega)]
        have hh' := hh (r ++ [(⟨t0, (⟨t1, c + 2, c + 3⟩ : S69)⟩ : S71)]) (by simp; omega)
        rw [List.append_assoc, List.singleton_append] at hh'
        exact Ev_at hh' (by simp only [List.length_cons]; omega)
  obtain ⟨l', e1, e2, e3⟩ := go l [] 0 c rfl h0 (by omega) (by simpa using hl)
  refine ⟨l', e1, ?_, ?_⟩
  · simp only [laws_markEntryS.f]; exact e2
  · simp only [laws_heldEntryS.f]; exact e3 [] rfl
theorem rdl_Change (l : List S101) (i : Nat) (h : i < l.length) : rd_T101 l (i : Int) = l[i] := by unfold rd_T101; exact getD_in l _ i h
theorem rdi_Change (l : List S87) (i : Nat) (h : i < l.length) : rd_T87 l (i : Int) = l[i] := by unfold rd_T87; exact getD_in l _ i h
theorem rda_Change (a b : List S87) (x : S87) (i : Nat) (h : a.length = i) : rd_T87 (a ++ x :: b) (i : Int) = x := by unfold rd_T87; exact getD_at a b _ x i h
def Z_Change (x : S101) : Nat := (Z_Entry x.f1)
def ZS_Change (l : List S101) : Nat := l.length + (l.map Z_Change).sum
theorem ZS_in_Change (l : List S101) : l.length ≤ ZS_Change l ∧ ∀ y ∈ l, Z_Change y ≤ ZS_Change l := ⟨by unfold ZS_Change; omega, fun y hy => by have := sum_le Z_Change l y hy; unfold ZS_Change; omega⟩
theorem sz_Change (x : S101) (hw : W101 x) (c : Int) (h0 : 0 ≤ c) (h1 : c ≤ 1048576) : Ev (fun k => laws_szChange.f (x.f0) (x.f1.f0) (x.f1.f1.f0) (x.f1.f1.f1) (x.f1.f1.f2) c) (cut c (Z_Change x)) := by
  have hM : maxLen = 9223372036854775807 := by decide
  unfold W101 at hw
  obtain ⟨w0, w1⟩ := hw
  simp only [laws_szChange.f]
  refine Ev_b (sz_Entry x.f1 w1 c (by omega) (by omega)) ?_
  by_cases g1 : (((Z_Entry x.f1) : Nat) : Int) ≤ c
  case neg => rw [cut_neg g1, cut_neg (by unfold Z_Change; omega)]; exact Ev_t (by decide) (Ev_n rfl)
  rw [cut_pos g1]
  refine Ev_f (by omega) ?_
  obtain ⟨c1, hc1⟩ : ∃ z_, z_ = c - (((Z_Entry x.f1) : Nat) : Int) := ⟨_, rfl⟩
  simp only [← hc1]
  rw [cut_pos (by unfold Z_Change; omega)]
  exact Ev_n (by unfold Z_Change; omega)
theorem szS_Change (l : List S101) (hl : l.length ≤ maxLen) (hw : ∀ y ∈ l, W101 y) (c : Int) (h0 : 0 ≤ c) (h1 : c ≤ 1048576) : Ev (fun k => laws_szChangeS.f k l c) (cut c (ZS_Change l)) := by
  have hM : maxLen = 9223372036854775807 := by decide
  rw [hM] at hl
  have go : ∀ (d i : Nat) (c : Int), i + d = l.length → l.length ≤ 1048576 → 0 ≤ c → c ≤ 1048576 → Ev (fun k => laws_szChangeS.l0 k l c i) (cut c (((l.drop i).map Z_Change).sum : Nat)) := by
    intro d
    induction d with
    | zero =>
      intro i c q1 q2 q3 q4
      refine Ev_suc ?_
      simp only [laws_szChangeS.l0]
      rw [List.drop_of_length_le (by omega), cut_pos (by simpa using q3)]
      exact Ev_f (by omega) (Ev_n (by simp))
    | succ d ih =>
      intro i c q1 q2 q3 q4
      refine Ev_suc ?_
      simp only [laws_szChangeS.l0]
      refine Ev_t (by omega) (Ev_t (by omega) ?_)
      rw [rdl_Change l i (by omega)]
      refine Ev_b (sz_Change l[i] (hw _ (List.getElem_mem _)) c q3 q4) ?_
      rw [List.drop_eq_getElem_cons (show i < l.length by omega), List.map_cons, List.sum_cons]
      by_cases g : ((Z_Change l[i] : Nat) : Int) ≤ c
      case neg => rw [cut_neg g, cut_neg (by omega)]; exact Ev_t (by decide) (Ev_n rfl)
      rw [cut_pos g]
      refine Ev_f (by omega) ?_
      rw [wr64s i (by omega)]
      refine Ev_at (ih (i + 1) _ (by omega) q2 (by omega) (by omega)) ?_
      unfold cut
      split <;> split <;> omega
  simp only [laws_szChangeS.f]
  rw [wr64 (x := c - (l.length : Int)) (by omega) (by omega)]
  by_cases g : c - (l.length : Int) < 0
  · rw [cut_neg (by unfold ZS_Change; omega)]
    exact Ev_t g (Ev_n rfl)
  · refine Ev_f g (Ev_at (go l.length 0 _ (by omega) (by omega) (by omega) (by omega)) ?_)
    rw [List.drop_zero]
    unfold cut ZS_Change
    split <;> split <;> omega
def conv_Change (x : S101) : S87 := ⟨x.f0, (conv_Entry x.f1)⟩
def B_Change (x : S101) : Prop := B_Entry x.f1
theorem B_of_Change (x : S101) (h : (Z_Change x : Int) ≤ 1048576) : B_Change x := by
  unfold Z_Change at h
  unfold B_Change
  exact B_of_Entry x.f1 (by omega)
theorem to_Change (x : S101) (hb : B_Change x) : Ev (fun k => laws_toChange.f (x.f0) (x.f1.f0) (x.f1.f1.f0) (x.f1.f1.f1) (x.f1.f1.f2)) ((conv_Change x).f0, (conv_Change x).f1.f0, (conv_Change x).f1.f1.f0, (conv_Change x).f1.f1.f1, (conv_Change x).f1.f1.f2) := by
  unfold B_Change at hb
  simp only [laws_toChange.f]
  refine Ev_b (to_Entry x.f1 hb) ?_
  exact Ev_n rfl
theorem toS_Change (l : List S101) (hl : (l.length : Int) ≤ 1048576) (hb : ∀ y ∈ l, B_Change y) : Ev (fun k => laws_toChangeS.f k l) (l.map conv_Change) := by
  have go : ∀ (d i : Nat) (xs : List S87), i + d = l.length → xs.length = l.length → xs.take i = (l.map conv_Change).take i → Ev (fun k => laws_toChangeS.l0 k l xs i) (l.map conv_Change) := by
    intro d
    induction d with
    | zero =>
      intro i xs q1 q2 q3
      refine Ev_suc ?_
      simp only [laws_toChangeS.l0]
      rw [List.take_of_length_le (by omega), List.take_of_length_le (by simp; omega)] at q3
      rw [q3]
      exact Ev_f (by omega) (Ev_n rfl)
    | succ d ih =>
      intro i xs q1 q2 q3
      refine Ev_suc ?_
      simp only [laws_toChangeS.l0]
      refine Ev_t (by omega) (Ev_t (by omega) ?_)
      rw [rdl_Change l i (by omega)]
      refine Ev_b (to_Change l[i] (hb _ (List.getElem_mem _))) ?_
      refine Ev_t (by omega) ?_
      rw [wr64s i (by omega), Int.toNat_natCast]
      refine ih (i + 1) _ (by omega) (by rw [List.length_set]; exact q2) ?_
      rw [set_take' _ _ _ (by omega), q3, List.take_succ_eq_append_getElem (by simp; omega)]
      simp [conv_Change]
  simp only [laws_toChangeS.f]
  refine Ev_t (by omega) (Ev_t (by omega) ?_)
  exact go l.length 0 _ (by omega) (by simp) (by simp)
def E_Change (x : S87) : Prop := E_Entry x.f1
theorem E_of_Change (x : S101) (hb : B_Change x) : E_Change (conv_Change x) := by
  unfold B_Change at hb
  unfold E_Change
  exact E_of_Entry _ hb
theorem eq_Change (x : S87) (he : E_Change x) : Ev (fun k => laws_eqChange.f (x.f0) (x.f1.f0) (x.f1.f1.f0) (x.f1.f1.f1) (x.f1.f1.f2) (x.f0) (x.f1.f0) (x.f1.f1.f0) (x.f1.f1.f1) (x.f1.f1.f2)) true := by
  unfold E_Change at he
  simp only [laws_eqChange.f, if_true]
  refine Ev_b (eq_Entry x.f1 he) ?_
  simp only [if_true]
  exact Ev_n rfl
theorem eqS_Change (m : List S87) (hl : (m.length : Int) ≤ 1048576) (he : ∀ y ∈ m, E_Change y) : Ev (fun k => laws_eqChangeS.f k m m) true := by
  have go : ∀ (d i : Nat), i + d = m.length → Ev (fun k => laws_eqChangeS.l0 k m m i) true := by
    intro d
    induction d with
    | zero =>
      intro i q1
      refine Ev_suc ?_
      simp only [laws_eqChangeS.l0]
      exact Ev_f (by omega) (Ev_n rfl)
    | succ d ih =>
      intro i q1
      refine Ev_suc ?_
      simp only [laws_eqChangeS.l0]
      refine Ev_t (by omega) (Ev_t (by omega) (Ev_t (by omega) ?_))
      rw [rdi_Change m i (by omega)]
      refine Ev_b (eq_Change m[i] (he _ (List.getElem_mem _))) ?_
      rw [wr64s i (by omega)]
      exact Ev_t rfl (ih (i + 1) (by omega))
  simp only [laws_eqChangeS.f]
  exact Ev_t (by first | trivial | rfl) (go m.length 0 (by omega))
theorem mk_Change (l : List S87) (c : Int) (h0 : 0 ≤ c) (h1 : c ≤ 1000000000000) (hl : (l.length : Int) ≤ 1000000000000) : ∃ l', l'.length = l.length ∧ Ev (fun k => laws_markChangeS.f k l c) (c + 5 * l.length, l') ∧ Ev (fun k => laws_heldChangeS.f k l' c) (c + 5 * l.length) := by
  have go : ∀ (q p : List S87) (i : Nat) (c : Int), p.length = i → 0 ≤ c → c + 5 * q.length ≤ 100000000000000000 → (i : Int) + q.length ≤ 1000000000000 → ∃ q', q'.length = q.length ∧ Ev (fun k => laws_markChangeS.l0 k (p ++ q) c i) (c + 5 * q.length, p ++ q') ∧ ∀ r : List S87, r.length = i → Ev (fun k => laws_heldChangeS.l0 k (r ++ q') c i) (c + 5 * q.length) := by
    intro q
    induction q with
    | nil =>
      intro p i c q1 q2 q3 q4
      refine ⟨[], rfl, Ev_suc ?_, fun r hr => Ev_suc ?_⟩
      · simp only [laws_markChangeS.l0]
        exact Ev_f (by simp; omega) (Ev_n (by simp))
      · simp only [laws_heldChangeS.l0]
        exact Ev_f (by simp; omega) (Ev_n (by simp))
    | cons x q ih =>
      intro p i c q1 q2 q3 q4
      simp only [List.length_cons] at q3 q4
      have e0 : wrap64 (c + 1) = c + 1 := (wr64 (by omega) (by omega)).trans (by omega)
      have e1 : wrap64 (c + 1 + 1) = c + 2 := (wr64 (by omega) (by omega)).trans (by omega)
      have e2 : wrap64 (c + 2 + 1) = c + 3 := (wr64 (by omega) (by omega)).trans (by omega)
      have e3 : wrap64 (c + 3 + 1) = c + 4 := (wr64 (by omega) (by omega)).trans (by omega)
      have e4 : wrap64 (c + 4 + 1) = c + 5 := (wr64 (by omega) (by omega)).trans (by omega)
      obtain ⟨t1, ht1⟩ := markText_ev (c + 1) (by omega) (by omega)
      obtain ⟨t2, ht2⟩ := markText_ev (c + 2) (by omega) (by omega)
      obtain ⟨q', hq, hm, hh⟩ := ih (p ++ [(⟨c, (⟨t1, (⟨t2, c + 3, c + 4⟩ : S69)⟩ : S71)⟩ : S87)]) (i + 1) (c + 5) (by simp; omega) (by omega) (by omega) (by omega)
      refine ⟨(⟨c, (⟨t1, (⟨t2, c + 3, c + 4⟩ : S69)⟩ : S71)⟩ : S87) :: q', by simp [hq], Ev_suc ?_, fun r hr => Ev_suc ?_⟩
      · simp only [laws_markChangeS.l0, e0, e1, e2, e3, e4, set_at p q _ _ i q1, rda_Change p q _ i q1]
        refine Ev_t (by simp; omega) ?_
        first | refine Ev_t (by omega) ?_ | skip
        refine Ev_s ?_
        try simp only [e0, e1, e2, e3, e4, set_at p q _ _ i q1, rda_Change p q _ i q1]
        refine Ev_b ht1 ?_
        refine Ev_s ?_
        try simp only [e0, e1, e2, e3, e4, set_at p q _ _ i q1, rda_Change p q _ i q1]
        refine Ev_b ht2 ?_
        refine Ev_s ?_
        try simp only [e0, e1, e2, e3, e4, set_at p q _ _ i q1, rda_Change p q _ i q1]
        refine Ev_s ?_
        try simp only [e0, e1, e2, e3, e4, set_at p q _ _ i q1, rda_Change p q _ i q1]
        try simp only [e0, e1, e2, e3, e4, set_at p q _ _ i q1, rda_Change p q _ i q1]
        rw [wr64s i (by omega)]
        have hm' := hm
        rw [List.append_assoc, List.singleton_append, List.append_assoc, List.singleton_append] at hm'
        exact Ev_at hm' (by simp only [List.length_cons, Prod.mk.injEq, and_true]; omega)
      · simp only [laws_heldChangeS.l0, e0, e1, e2, e3, e4, rda_Change r q' _ i hr]
        refine Ev_t (by simp; omega) ?_
        refine Ev_t (by omega) ?_
        refine Ev_t (by first | rfl | exact True.intro | omega) ?_
        refine Ev_b ht1 ?_
        refine Ev_t (by first | rfl | exact True.intro | omega) ?_
        refine Ev_b ht2 ?_
        refine Ev_t (by first | rfl | exact True.intro | omega) ?_
        refine Ev_t (by first | rfl | exact True.intro | omega) ?_
        refine Ev_t (by first | rfl | exact True.intro | omega) ?_
        rw [wr64s i (by omega)]
        have hh' := hh (r ++ [(⟨c, (⟨t1, (⟨t2, c + 3, c + 4⟩ : S69)⟩ : S71)⟩ : S87)]) (by simp; omega)
        rw [List.append_assoc, List.singleton_append] at hh'
        exact Ev_at hh' (by simp only [List.length_cons]; omega)
  obtain ⟨l', e1, e2, e3⟩ := go l [] 0 c rfl h0 (by omega) (by simpa using hl)
  refine ⟨l', e1, ?_, ?_⟩
  · simp only [laws_markChangeS.f]; exact e2
  · simp only [laws_heldChangeS.f]; exact e3 [] rfl
end Go.Proofs.Ythnigkbbmhnafaa.Q
namespace Go.Proofs.Ythnigkbbmhnafaa.Q
open Go.RowKit Go.Proofs.YthnigkbbmhnafaaW.PrintWords Go.Proofs.YthnigkbbmhnafaaW.PrintLast Go.Proofs.YthnigkbbmhnafaaW.PrintMore
structure Ordr {κ : Type} (c : κ → κ → Int) : Prop where
  zero : ∀ a b, c a b = 0 ↔ a = b
  anti : ∀ a b, c a b < 0 ↔ 0 < c b a
  trans : ∀ a b d, c a b < 0 → c b d < 0 → c a d < 0
theorem cb_ord : Ordr Go.Lib.compareBytes := by
  constructor
  · intro a
    induction a with
    | nil => intro b; cases b <;> simp [Go.Lib.compareBytes]
    | cons x a ih =>
      intro b
      cases b with
      | nil => simp [Go.Lib.compareBytes]
      | cons y b =>
        simp only [Go.Lib.compareBytes]
        by_cases h1 : x < y
        · have : x ≠ y := fun e => by subst e; exact absurd h1 (UInt8.lt_irrefl _)
          simp [h1, this]
        · by_cases h2 : y < x
          · have : x ≠ y := fun e => by subst e; exact absurd h2 (UInt8.lt_irrefl _)
            simp [h1, h2, this]
          · have : x = y := UInt8.le_antisymm (UInt8.not_lt.1 h2) (UInt8.not_lt.1 h1)
            subst this
            simp [h1, ih]
  · intro a
    induction a with
    | nil => intro b; cases b <;> simp [Go.Lib.compareBytes]
    | cons x a ih =>
      intro b
      cases b with
      | nil => simp [Go.Lib.compareBytes]
      | cons y b =>
        simp only [Go.Lib.compareBytes]
        by_cases h1 : x < y
        · have h2 : ¬ y < x := fun h => absurd (UInt8.lt_trans h1 h) (UInt8.lt_irrefl _)
          simp [h1, h2]
        · by_cases h2 : y < x
          · simp [h1, h2]
          · simp [h1, h2, ih]
  · intro a
    induction a with
    | nil => intro b d; cases b <;> cases d <;> simp [Go.Lib.compareBytes]
    | cons x a ih =>
      intro b d
      cases b with
      | nil => simp [Go.Lib.compareBytes]
      | cons y b =>
        cases d with
        | nil => simp [Go.Lib.compareBytes]
        | cons z d =>
          simp only [Go.Lib.compareBytes]
          by_cases h1 : x < y
          · by_cases h2 : y < z
            · simp [h1, h2, UInt8.lt_trans h1 h2]
            · by_cases h3 : z < y
              · simp [h1, h2, h3]
              · have : y = z := UInt8.le_antisymm (UInt8.not_lt.1 h3) (UInt8.not_lt.1 h2)
                subst this
                simp [h1]
          · by_cases h1' : y < x
            · simp [h1, h1']
            · have : x = y := UInt8.le_antisymm (UInt8.not_lt.1 h1') (UInt8.not_lt.1 h1)
              subst this
              by_cases h2 : x < z
              · simp [h2]
              · by_cases h3 : z < x
                · simp [h2, h3]
                · simpa [h1, h2, h3] using ih b d
theorem Ordr.step {κ : Type} {c : κ → κ → Int} (h : Ordr c) {x y t : κ} (h1 : c x y < 0) (h2 : 0 ≤ c x t) : 0 < c y t := by
  by_cases e : c x t = 0
  · have := (h.zero x t).1 e
    subst this
    exact (h.anti _ _).1 h1
  · have q : c t x < 0 := (h.anti t x).2 (by omega)
    exact (h.anti t y).1 (h.trans t x y q h1)
def plc {α : Type} (c : α → Int) : List α → Nat
  | [] => 0
  | x :: l => if c x < 0 then plc c l + 1 else 0
def Rsg {α : Type} (c : α → Int) (l : List α) : Prop := ∀ (i j : Nat) (hi : i < j) (hj : j < l.length), 0 ≤ c l[i] → 0 < c l[j]
theorem plc_le {α : Type} (c : α → Int) : ∀ l, plc c l ≤ l.length
  | [] => by simp [plc]
  | x :: l => by have := plc_le c l; unfold plc; split <;> simp <;> omega
theorem plc_lt {α : Type} (c : α → Int) : ∀ l (i : Nat) (hi : i < l.length), i < plc c l → c l[i] < 0
  | [], i, hi, _ => by simp at hi
  | x :: l, i, hi, h => by
    unfold plc at h
    split at h
    · rename_i hx
      cases i with
      | zero => exact hx
      | succ i => exact plc_lt c l i (by simpa using hi) (by omega)
    · omega
theorem plc_at {α : Type} (c : α → Int) : ∀ l (h : plc c l < l.length), 0 ≤ c (l[plc c l]'h)
  | [], h => by simp [plc] at h
  | x :: l, h => by
    by_cases hx : c x < 0
    · have e : plc c (x :: l) = plc c l + 1 := by rw [plc, if_pos hx]
      have h2 : plc c l < l.length := by rw [e] at h; simpa using h
      have := plc_at c l h2
      simpa only [e, List.getElem_cons_succ] using this
    · have e : plc c (x :: l) = 0 := by rw [plc, if_neg hx]
      simp only [e, List.getElem_cons_zero]
      omega
theorem Rsg.gt {α : Type} {c : α → Int} {l : List α} (h : Rsg c l) (i : Nat) (hi : i < l.length) (hp : plc c l < i) : 0 < c l[i] := h (plc c l) i hp hi (plc_at c l (by omega))
def fnd {α : Type} (c : α → Int) (l : List α) : Bool := if h : plc c l < l.length then decide (c (l[plc c l]'h) = 0) else false
theorem fnd_t {α : Type} {c : α → Int} {l : List α} (h : fnd c l = true) : ∃ hp : plc c l < l.length, c (l[plc c l]'hp) = 0 := by
  unfold fnd at h
  split at h
  · rename_i hp; exact ⟨hp, by simpa using h⟩
  · cases h
theorem fnd_f {α : Type} {c : α → Int} {l : List α} (hr : Rsg c l) (h : fnd c l = false) (i : Nat) (hi : i < l.length) : c l[i] ≠ 0 := by
  rcases Nat.lt_trichotomy i (plc c l) with g | g | g
  · have := plc_lt c l i hi g; omega
  · subst g
    unfold fnd at h
    rw [dif_pos hi] at h
    simpa using h
  · have := hr.gt i hi g; omega
theorem mid_ev (i j : Nat) (h : (i : Int) + j < 1000000000000) : wrap64 ((IntKind.u64.wrap (wrap64 ((i : Int) + j))) / 2) = (((i + j) / 2 : Nat) : Int) := by
  rw [wr64 (x := (i : Int) + j) (by omega) (by omega)]
  have : IntKind.u64.wrap ((i : Int) + j) = (i : Int) + j := by simp [IntKind.wrap, IntKind.bits, IntKind.signed]; omega
  rw [this, wr64 (by omega) (by omega)]
  omega
end Go.Proofs.Ythnigkbbmhnafaa.Q
namespace Go.Proofs.Ythnigkbbmhnafaa.Q
open Go.RowKit Go.Proofs.YthnigkbbmhnafaaW.PrintWords Go.Proofs.YthnigkbbmhnafaaW.PrintLast Go.Proofs.YthnigkbbmhnafaaW.PrintMore
theorem ite_and (b c : Bool) : (if b = true then some c else some false) = some (b && c) := by cases b <;> rfl
theorem in_f (a b c : Int) : spec_l00In.f a b c = some (decide (b ≤ a) && decide (a ≤ c)) := by unfold spec_l00In.f; by_cases h : a ≥ b <;> simp [h]
theorem within_f (a b c : Int) : impl_within.f a b c = some (decide (b ≤ a) && decide (a ≤ c)) := by unfold impl_within.f; by_cases h : a ≥ b <;> simp [h]
theorem w64 {x : Int} (h0 : -9223372036854775808 ≤ x) (h1 : x < 9223372036854775808) : wrap64 x = x := by unfold wrap64; omega
end Go.Proofs.Ythnigkbbmhnafaa.Q
namespace Go.Proofs.Ythnigkbbmhnafaa.Q
open Go.RowKit Go.Proofs.YthnigkbbmhnafaaW.PrintWords Go.Proofs.YthnigkbbmhnafaaW.PrintLast Go.Proofs.YthnigkbbmhnafaaW.PrintMore
theorem toList_len (x : ByteArray) : x.toList.length = x.size := by
  rw [Go.ByteArray.toList_eq x, Array.length_toList]; rfl
theorem name_round (k : Nat) (x : ByteArray) (i : Int) : spec_l01Name.l0 k x i = impl_IsName.l0 k x i := by
  induction k generalizing i with
  | zero => rfl
  | succ k ih =>
    simp only [spec_l01Name.l0, impl_IsName.l0, ih, spec_l01Small.f, spec_l01Digit.f]
    by_cases h1 : i < (x.size : Int)
    · rw [if_pos h1, if_pos h1]
      by_cases h2 : 0 ≤ i
      · rw [if_pos h2, if_pos h2]
        generalize bt x i = c
        by_cases h3 : c < 97
        · rw [if_pos h3, if_neg (by omega)]
          by_cases h4 : c < 48
          · rw [if_pos h4, if_neg (by omega)]; simp
          · rw [if_neg h4, if_pos (by omega)]
            by_cases h5 : c > 57
            · rw [if_pos h5]; simp [show ¬ c ≤ 57 by omega]
            · rw [if_neg h5]; simp [show c ≤ 57 by omega]
        · rw [if_neg h3, if_pos (show c ≥ 97 by omega)]
          by_cases h4 : c > 122
          · simp [h4, show ¬ c < 48 by omega, show c > 57 by omega, show ¬ c ≤ 122 by omega, show ¬ c ≤ 57 by omega]
          · rw [if_neg h4]; simp [show c ≤ 122 by omega]
      · rw [if_neg h2, if_neg h2]
    · rw [if_neg h1, if_neg h1]
theorem name_same (k : Nat) (x : ByteArray) : spec_l01Name.f k x = impl_IsName.f k x := by
  have hj : ∀ b, spec_l01Name.j0 k x b = impl_IsName.j0 k x b := by
    intro b
    cases k with
    | zero => rfl
    | succ k => simp only [spec_l01Name.j0, impl_IsName.j0, name_round]
  unfold spec_l01Name.f impl_IsName.f spec_l01Small.f
  simp only [hj]
  by_cases h0 : x.toList = []
  · have : x.size = 0 := by rw [← toList_len, h0]; rfl
    rw [if_pos h0, if_pos (by omega)]
  · have : x.size ≠ 0 := by
      intro e; apply h0; apply List.eq_nil_of_length_eq_zero; rw [toList_len, e]
    rw [if_neg h0, if_neg (show ¬ (x.size : Int) < 1 by omega)]
    by_cases h1 : (x.size : Int) > 10
    · rw [if_pos h1, if_pos h1]
    · rw [if_neg h1, if_neg h1, if_pos (show 0 < (x.size : Int) by omega), if_pos (show 0 < (x.size : Int) by omega)]
      generalize bt x 0 = c
      by_cases h3 : c < 97
      · rw [if_pos h3, if_neg (show ¬ c ≥ 97 by omega)]; rfl
      · rw [if_neg h3, if_pos (show c ≥ 97 by omega)]
        simp only [Option.bind_some]
        congr 1
        by_cases h4 : c > 122
        · simp [h4, show ¬ c ≤ 122 by omega]
        · simp [h4, show c ≤ 122 by omega]
theorem name_ev (x : ByteArray) : ∃ b, ∀ k, 12 < k → impl_IsName.f k x = some b := by
  have go : ∀ (d : Nat) (i : Int), 0 ≤ i → i + d = x.size → (x.size : Int) ≤ 10 → ∃ b, ∀ k, d < k → impl_IsName.l0 k x i = some b := by
    intro d
    induction d with
    | zero =>
      intro i h0 h1 _
      refine ⟨true, fun k hk => ?_⟩
      obtain ⟨k, rfl⟩ : ∃ m, k = m + 1 := ⟨k - 1, by omega⟩
      simp only [impl_IsName.l0]
      rw [if_neg (by omega)]
    | succ d ih =>
      intro i h0 h1 h2
      obtain ⟨b, hb⟩ := ih (i + 1) (by omega) (by omega) h2
      by_cases h3 : bt x i < 97
      · by_cases h4 : bt x i < 48
        · refine ⟨false, fun k hk => ?_⟩
          obtain ⟨k, rfl⟩ : ∃ m, k = m + 1 := ⟨k - 1, by omega⟩
          simp only [impl_IsName.l0]
          rw [if_pos (by omega), if_pos h0, if_pos h3, if_pos h4]
        · by_cases h5 : bt x i > 57
          · refine ⟨false, fun k hk => ?_⟩
            obtain ⟨k, rfl⟩ : ∃ m, k = m + 1 := ⟨k - 1, by omega⟩
            simp only [impl_IsName.l0]
            rw [if_pos (by omega), if_pos h0, if_pos h3, if_neg h4, if_pos h5]
          · refine ⟨b, fun k hk => ?_⟩
            obtain ⟨k, rfl⟩ : ∃ m, k = m + 1 := ⟨k - 1, by omega⟩
            simp only [impl_IsName.l0]
            rw [if_pos (by omega), if_pos h0, if_pos h3, if_neg h4, if_neg h5, w64 (by omega) (by omega), hb k (by omega)]
      · by_cases h4 : bt x i > 122
        · refine ⟨false, fun k hk => ?_⟩
          obtain ⟨k, rfl⟩ : ∃ m, k = m + 1 := ⟨k - 1, by omega⟩
          simp only [impl_IsName.l0]
          rw [if_pos (by omega), if_pos h0, if_neg h3, if_pos h4, if_neg (by omega), if_pos (by omega)]
        · refine ⟨b, fun k hk => ?_⟩
          obtain ⟨k, rfl⟩ : ∃ m, k = m + 1 := ⟨k - 1, by omega⟩
          simp only [impl_IsName.l0]
          rw [if_pos (by omega), if_pos h0, if_neg h3, if_neg h4, w64 (by omega) (by omega), hb k (by omega)]
  have hj : ∀ (b : Bool), (b = false → (x.size : Int) ≤ 10) → ∃ c, ∀ k, 12 < k → impl_IsName.j0 k x b = some c := by
    intro b hs
    cases b with
    | true =>
      refine ⟨false, fun k hk => ?_⟩
      obtain ⟨k, rfl⟩ : ∃ m, k = m + 1 := ⟨k - 1, by omega⟩
      simp only [impl_IsName.j0, if_true]
    | false =>
      obtain ⟨c, hc⟩ := go x.size 0 (by omega) (by omega) (hs rfl)
      have := hs rfl
      refine ⟨c, fun k hk => ?_⟩
      obtain ⟨k, rfl⟩ : ∃ m, k = m + 1 := ⟨k - 1, by omega⟩
      simp only [impl_IsName.j0]
      rw [if_neg (by decide), hc k (by omega)]
  unfold impl_IsName.f
  by_cases h1 : (x.size : Int) < 1
  · simp only [if_pos h1]; exact hj true (by intro h; cases h)
  · simp only [if_neg h1]
    by_cases h2 : (x.size : Int) > 10
    · simp only [if_pos h2]; exact hj true (by intro h; cases h)
    · simp only [if_neg h2, if_pos (show 0 < (x.size : Int) by omega)]
      by_cases h3 : bt x 0 < 97
      · simp only [if_pos h3]; exact hj true (by intro h; cases h)
      · simp only [if_neg h3]; exact hj _ (fun _ => by omega)
end Go.Proofs.Ythnigkbbmhnafaa.Q
namespace Go.Proofs.Ythnigkbbmhnafaa.Q
open Go.RowKit Go.Proofs.YthnigkbbmhnafaaW.PrintWords Go.Proofs.YthnigkbbmhnafaaW.PrintLast Go.Proofs.YthnigkbbmhnafaaW.PrintMore
def spi (l : List UInt8) : Int := if l = [97, 115, 104] then 0 else if l = [98, 101, 101, 99, 104] then 1 else if l = [98, 105, 114, 99, 104] then 2 else if l = [99, 104, 101, 114, 114, 121] then 3 else if l = [101, 98, 111, 110, 121] then 4 else if l = [104, 111, 108, 108, 121] then 5 else if l = [109, 97, 112, 108, 101] then 6 else if l = [111, 97, 107] then 7 else if l = [114, 111, 115, 101, 119, 111, 111, 100] then 8 else if l = [119, 97, 108, 110, 117, 116] then 9 else -1
def shades : List Int := [20, 35, 15, 50, 95, 5, 10, 40, 80, 70]
theorem sp_cases (l : List UInt8) : (l = [97, 115, 104]) ∨ (l = [98, 101, 101, 99, 104]) ∨ (l = [98, 105, 114, 99, 104]) ∨ (l = [99, 104, 101, 114, 114, 121]) ∨ (l = [101, 98, 111, 110, 121]) ∨ (l = [104, 111, 108, 108, 121]) ∨ (l = [109, 97, 112, 108, 101]) ∨ (l = [111, 97, 107]) ∨ (l = [114, 111, 115, 101, 119, 111, 111, 100]) ∨ (l = [119, 97, 108, 110, 117, 116]) ∨ (¬ l = [97, 115, 104] ∧ ¬ l = [98, 101, 101, 99, 104] ∧ ¬ l = [98, 105, 114, 99, 104] ∧ ¬ l = [99, 104, 101, 114, 114, 121] ∧ ¬ l = [101, 98, 111, 110, 121] ∧ ¬ l = [104, 111, 108, 108, 121] ∧ ¬ l = [109, 97, 112, 108, 101] ∧ ¬ l = [111, 97, 107] ∧ ¬ l = [114, 111, 115, 101, 119, 111, 111, 100] ∧ ¬ l = [119, 97, 108, 110, 117, 116]) := by
  by_cases h0 : l = [97, 115, 104]
  · exact .inl h0
  by_cases h1 : l = [98, 101, 101, 99, 104]
  · exact .inr ((.inl h1))
  by_cases h2 : l = [98, 105, 114, 99, 104]
  · exact .inr (.inr ((.inl h2)))
  by_cases h3 : l = [99, 104, 101, 114, 114, 121]
  · exact .inr (.inr (.inr ((.inl h3))))
  by_cases h4 : l = [101, 98, 111, 110, 121]
  · exact .inr (.inr (.inr (.inr ((.inl h4)))))
  by_cases h5 : l = [104, 111, 108, 108, 121]
  · exact .inr (.inr (.inr (.inr (.inr ((.inl h5))))))
  by_cases h6 : l = [109, 97, 112, 108, 101]
  · exact .inr (.inr (.inr (.inr (.inr (.inr ((.inl h6)))))))
  by_cases h7 : l = [111, 97, 107]
  · exact .inr (.inr (.inr (.inr (.inr (.inr (.inr ((.inl h7))))))))
  by_cases h8 : l = [114, 111, 115, 101, 119, 111, 111, 100]
  · exact .inr (.inr (.inr (.inr (.inr (.inr (.inr (.inr ((.inl h8)))))))))
  by_cases h9 : l = [119, 97, 108, 110, 117, 116]
  · exact .inr (.inr (.inr (.inr (.inr (.inr (.inr (.inr (.inr ((.inl h9))))))))))
  exact .inr (.inr (.inr (.inr (.inr (.inr (.inr (.inr (.inr (.inr (⟨h0, h1, h2, h3, h4, h5, h6, h7, h8, h9⟩))))))))))
theorem l07Find_f (a : ByteArray) (k : Nat) (hk : 12 ≤ k) : spec_l07Find.f k a = some (spi a.toList) := by
  obtain ⟨k, rfl⟩ : ∃ m, k = m + 12 := ⟨k - 12, by omega⟩
  unfold spec_l07Find.f spec_l07Names.f spi
  simp only [Option.bind_some, spec_l07Find.l0, wrap64, rdOf]
  simp (decide := true)
  generalize a.toList = l
  simp only [eq_comm (b := l)]
  rcases sp_cases l with h | h | h | h | h | h | h | h | h | h | h
  all_goals first | (subst h; decide) | (obtain ⟨h0, h1, h2, h3, h4, h5, h6, h7, h8, h9⟩ := h; simp only [h0, h1, h2, h3, h4, h5, h6, h7, h8, h9, if_false])
def vVen (l : List UInt8) (sh gr : Int) : Bool := decide (0 ≤ spi l) && ((decide (0 ≤ sh) && decide (sh ≤ 100)) && ((decide (rd shades (spi l) - 15 ≤ sh) && decide (sh ≤ rd shades (spi l) + 15)) && (decide (0 ≤ gr) && decide (gr ≤ 179))))
theorem spi_range (l : List UInt8) : -1 ≤ spi l ∧ spi l ≤ 9 := by
  rcases sp_cases l with h | h | h | h | h | h | h | h | h | h | h
  all_goals first | (subst h; decide) | (obtain ⟨h0, h1, h2, h3, h4, h5, h6, h7, h8, h9⟩ := h; unfold spi; simp only [h0, h1, h2, h3, h4, h5, h6, h7, h8, h9, if_false]; decide)
theorem shade_of (i : Int) (h0 : 0 ≤ i) (h1 : i ≤ 9) : ∃ t, spec_l07Table.f = some t ∧ i < t.length ∧ 0 < (rd_L7 t i).length ∧ rd (rd_L7 t i) 0 = rd shades i ∧ 0 ≤ rd shades i ∧ rd shades i ≤ 100 := by
  refine ⟨_, rfl, ?_⟩
  obtain ⟨n, rfl⟩ := Int.eq_ofNat_of_zero_le h0
  have hn : n ≤ 9 := by omega
  match n, hn with
  | 0, _ => decide
  | 1, _ => decide
  | 2, _ => decide
  | 3, _ => decide
  | 4, _ => decide
  | 5, _ => decide
  | 6, _ => decide
  | 7, _ => decide
  | 8, _ => decide
  | 9, _ => decide
theorem iShade_f (a : ByteArray) : impl_speciesShade.f a = some (if 0 ≤ spi a.toList then (rd shades (spi a.toList), true) else (0, false)) := by
  unfold impl_speciesShade.f impl_SpeciesData.f spi
  generalize a.toList = l
  rcases sp_cases l with h | h | h | h | h | h | h | h | h | h | h
  all_goals first | (subst h; decide) | (obtain ⟨h0, h1, h2, h3, h4, h5, h6, h7, h8, h9⟩ := h; simp only [h0, h1, h2, h3, h4, h5, h6, h7, h8, h9, if_false]; decide)
theorem l07Ok_f (x : S69) (k : Nat) (hk : 12 ≤ k) : spec_l07Ok.f k [x] = some (vVen x.f0.toList x.f1 x.f2) := by
  obtain ⟨k, rfl⟩ : ∃ m, k = m + 1 := ⟨k - 1, by omega⟩
  have hrd : rd_T69 [x] 0 = x := rfl
  unfold spec_l07Ok.f vVen
  rw [if_pos (by simp), hrd, l07Find_f _ _ hk]
  simp only [Option.bind_some]
  have hr := spi_range x.f0.toList
  by_cases h : spi x.f0.toList < 0
  · rw [if_pos h]
    simp only [spec_l07Ok.j0, if_true]
    rw [show decide (0 ≤ spi x.f0.toList) = false from decide_eq_false (by omega)]
    rfl
  · rw [if_neg h, in_f, show decide (0 ≤ spi x.f0.toList) = true from decide_eq_true (by omega)]
    obtain ⟨t, ht, h1, h2, h3, h4, h5⟩ := shade_of (spi x.f0.toList) (by omega) (by omega)
    simp only [Option.bind_some, spec_l07Ok.j0]
    cases hs : (decide (0 ≤ x.f1) && decide (x.f1 ≤ 100))
    · simp
    · rw [if_neg (by simp), ht]
      simp only [Option.bind_some]
      rw [if_pos (by omega), if_pos h1, if_pos (by omega), if_pos (by simp), hrd, h3, in_f, w64 (by omega) (by omega), w64 (by omega) (by omega)]
      simp only [Option.bind_some, spec_l07Grain.f, in_f]
      rw [ite_and]
      simp
theorem iValidVeneer_f (a : ByteArray) (sh gr : Int) : impl_ValidVeneer.f a sh gr = some (vVen a.toList sh gr) := by
  unfold impl_ValidVeneer.f vVen
  rw [iShade_f]
  simp only [Option.bind_some]
  have hr := spi_range a.toList
  by_cases h : 0 ≤ spi a.toList
  · rw [if_pos h]
    obtain ⟨t, ht, h1, h2, h3, h4, h5⟩ := shade_of (spi a.toList) h (by omega)
    simp only [if_true, within_f, Option.bind_some]
    rw [show decide (0 ≤ spi a.toList) = true from decide_eq_true h]
    cases hs : (decide (0 ≤ sh) && decide (sh ≤ 100))
    · simp
    · have hs' : 0 ≤ sh ∧ sh ≤ 100 := by simpa using hs
      rw [w64 (by omega) (by omega)]
      simp only [if_true, ite_and, Bool.true_and]
      congr 2
      rw [Bool.eq_iff_iff]
      simp only [Bool.and_eq_true, decide_eq_true_eq]
      omega
  · rw [if_neg h, show decide (0 ≤ spi a.toList) = false from decide_eq_false h]
    simp
end Go.Proofs.Ythnigkbbmhnafaa.Q
namespace Go.Proofs.Ythnigkbbmhnafaa.Q
open Go.RowKit Go.Proofs.YthnigkbbmhnafaaW.PrintWords Go.Proofs.YthnigkbbmhnafaaW.PrintLast Go.Proofs.YthnigkbbmhnafaaW.PrintMore
abbrev Ent := S71
def fcE (x : Ent) : List UInt8 := x.f0.data.toList
theorem less_iff : ∀ l m : List UInt8, Op.bytesLess l m = true ↔ Go.Lib.compareBytes l m < 0
  | [], [] => by simp [Go.Lib.compareBytes, Op.bytesLess]
  | [], _ :: _ => by simp [Go.Lib.compareBytes, Op.bytesLess]
  | _ :: _, [] => by simp [Go.Lib.compareBytes, Op.bytesLess]
  | a :: x, b :: y => by
    have ih := less_iff x y
    unfold Go.Lib.compareBytes Op.bytesLess
    by_cases hab : a < b
    · have hne : a ≠ b := fun e => by subst e; exact absurd hab (UInt8.lt_irrefl _)
      simp [hab, hne]
    · by_cases hba : b < a
      · have hne : a ≠ b := fun e => by subst e; exact absurd hba (UInt8.lt_irrefl _)
        simp [hab, hba, hne]
      · have he : a = b := UInt8.le_antisymm (UInt8.not_lt.1 hba) (UInt8.not_lt.1 hab)
        subst he
        simp only [hab, if_false]
        simpa using ih
theorem nameE_ev (x : ByteArray) : ∃ b, Ev (fun k => impl_IsName.f k x) b ∧ Ev (fun k => spec_l01Name.f k x) b := by
  obtain ⟨b, hb⟩ := name_ev x
  exact ⟨b, ⟨13, fun k hk => hb k (by omega)⟩, ⟨13, fun k hk => (name_same k x).trans (hb k (by omega))⟩⟩
theorem entry_ev (x : Ent) : ∃ b, Ev (fun k => spec_l27Entry.f k [x]) b ∧ Ev (fun k => impl_validEntry.f k x.f0 x.f1.f0 x.f1.f1 x.f1.f2) b ∧ (b = true → vVen x.f1.f0.toList x.f1.f1 x.f1.f2 = true) := by
  obtain ⟨n, h1, h2⟩ := nameE_ev x.f0
  have v1 : Ev (fun k => spec_l07Ok.f k [x.f1]) (vVen x.f1.f0.toList x.f1.f1 x.f1.f2) := ⟨12, fun k hk => l07Ok_f x.f1 k hk⟩
  have v2 := iValidVeneer_f x.f1.f0 x.f1.f1 x.f1.f2
  have r0 : rd_T71 [x] 0 = x := rfl
  cases n with
  | false =>
    refine ⟨false, ?_, ?_, fun h => by cases h⟩
    · simp only [spec_l27Entry.f, r0]; exact Ev_t (by simp) (Ev_b h2 (Ev_f (by decide) (Ev_n rfl)))
    · simp only [impl_validEntry.f]; exact Ev_b h1 (Ev_f (by decide) (Ev_n rfl))
  | true =>
    refine ⟨vVen x.f1.f0.toList x.f1.f1 x.f1.f2, ?_, ?_, fun h => h⟩
    · simp only [spec_l27Entry.f, r0]; exact Ev_t (by simp) (Ev_b h2 (Ev_t rfl (Ev_b v1 (Ev_n rfl))))
    · simp only [impl_validEntry.f]; exact Ev_b h1 (Ev_t rfl (Ev_b (Ev_c v2) (Ev_n rfl)))
def Sta (m : List Ent) : Prop := m.length ≤ 24 ∧ (∀ (i : Nat) (hi : i + 1 < m.length), Go.Lib.compareBytes (fcE (m[i]'(by omega))) (fcE m[i + 1]) < 0) ∧ ∀ y ∈ m, vVen y.f1.f0.toList y.f1.f1 y.f1.f2 = true
theorem state_ev (m : List Ent) (hl : (m.length : Int) ≤ 1048576) : ∃ b, Ev (fun k => spec_l27State.f k m) b ∧ Ev (fun k => impl_ValidState.f k m) b ∧ (b = true → Sta m) := by
  have go : ∀ (d i : Nat), i + d = m.length → ∃ b, Ev (fun k => spec_l27State.l0 k m i) b ∧ Ev (fun k => impl_ValidState.l0 k m m (m.length : Int) i) b ∧ (b = true → m.length ≤ 24 ∧ (∀ (j : Nat), i ≤ j → 0 < j → ∀ (hj : j < m.length), Go.Lib.compareBytes (fcE (m[j - 1]'(by omega))) (fcE m[j]) < 0) ∧ ∀ (j : Nat), i ≤ j → ∀ (hj : j < m.length), vVen m[j].f1.f0.toList m[j].f1.f1 m[j].f1.f2 = true) := by
    intro d
    induction d with
    | zero =>
      intro i h1
      refine ⟨decide ((m.length : Int) ≤ 24), Ev_suc ?_, Ev_suc ?_, fun h => ⟨by have := of_decide_eq_true h; omega, fun j h2 _ hj => by omega, fun j h2 hj => by omega⟩⟩
      · simp only [spec_l27State.l0]; exact Ev_f (by omega) (Ev_n rfl)
      · simp only [impl_ValidState.l0]; exact Ev_f (by omega) (Ev_n rfl)
    | succ d ih =>
      intro i h1
      have hi : i < m.length := by omega
      obtain ⟨v, v1, v2, v3⟩ := entry_ev m[i]
      cases v with
      | false =>
        refine ⟨false, Ev_suc ?_, Ev_suc ?_, fun h => by cases h⟩
        · simp only [spec_l27State.l0]
          refine Ev_t (by omega) (Ev_t (by omega) ?_)
          rw [rdi_Entry m i hi]
          exact Ev_b v1 (Ev_f (by decide) (Ev_n rfl))
        · simp only [impl_ValidState.l0]
          refine Ev_t (by omega) (Ev_t (by omega) (Ev_t (by omega) ?_))
          rw [rdi_Entry m i hi]
          exact Ev_b v2 (Ev_f (by decide) (Ev_n rfl))
      | true =>
        obtain ⟨b, b1, b2, b3⟩ := ih (i + 1) (by omega)
        by_cases h0 : i = 0
        · refine ⟨b, Ev_suc ?_, Ev_suc ?_, fun h => ?_⟩
          · simp only [spec_l27State.l0]
            refine Ev_t (by omega) (Ev_t (by omega) ?_)
            rw [rdi_Entry m i hi, wr64s i (by omega)]
            exact Ev_b v1 (Ev_t rfl (Ev_f (by omega) b1))
          · simp only [impl_ValidState.l0]
            refine Ev_t (by omega) (Ev_t (by omega) (Ev_t (by omega) ?_))
            rw [rdi_Entry m i hi, wr64s i (by omega)]
            exact Ev_b v2 (Ev_t rfl (Ev_f (by omega) b2))
          · obtain ⟨c1, c2, c3⟩ := b3 h
            refine ⟨c1, fun j h2 h3 hj => c2 j (by omega) h3 hj, fun j h2 hj => ?_⟩
            rcases Nat.lt_or_eq_of_le h2 with g | g
            · exact c3 j (by omega) hj
            · subst g; exact v3 rfl
        · have e : wrap64 ((i : Int) - 1) = ((i - 1 : Nat) : Int) := by rw [wr64 (by omega) (by omega)]; omega
          by_cases hc : Op.bytesLess ((m[i - 1]'(by omega)).f0.toList) (m[i].f0.toList) = true
          · refine ⟨b, Ev_suc ?_, Ev_suc ?_, fun h => ?_⟩
            · simp only [spec_l27State.l0]
              refine Ev_t (by omega) (Ev_t (by omega) ?_)
              rw [e, rdi_Entry m i hi, rdi_Entry m (i - 1) (by omega), wr64s i (by omega)]
              exact Ev_b v1 (Ev_t rfl (Ev_t (by omega) (Ev_t (by omega) (Ev_t (by omega) (Ev_t hc b1)))))
            · simp only [impl_ValidState.l0]
              refine Ev_t (by omega) (Ev_t (by omega) (Ev_t (by omega) ?_))
              rw [e, rdi_Entry m i hi, rdi_Entry m (i - 1) (by omega), wr64s i (by omega)]
              exact Ev_b v2 (Ev_t rfl (Ev_t (by omega) (Ev_t (by omega) (Ev_t (by omega) (Ev_t hc b2)))))
            · obtain ⟨c1, c2, c3⟩ := b3 h
              refine ⟨c1, fun j h2 h3 hj => ?_, fun j h2 hj => ?_⟩
              · rcases Nat.lt_or_eq_of_le h2 with g | g
                · exact c2 j (by omega) h3 hj
                · subst g
                  have := (less_iff _ _).1 hc
                  simpa only [fcE, Go.ByteArray.toList_eq] using this
              · rcases Nat.lt_or_eq_of_le h2 with g | g
                · exact c3 j (by omega) hj
                · subst g; exact v3 rfl
          · refine ⟨false, Ev_suc ?_, Ev_suc ?_, fun h => by cases h⟩
            · simp only [spec_l27State.l0]
              refine Ev_t (by omega) (Ev_t (by omega) ?_)
              rw [e, rdi_Entry m i hi, rdi_Entry m (i - 1) (by omega), wr64s i (by omega)]
              exact Ev_b v1 (Ev_t rfl (Ev_t (by omega) (Ev_t (by omega) (Ev_t (by omega) (Ev_f hc (Ev_n rfl))))))
            · simp only [impl_ValidState.l0]
              refine Ev_t (by omega) (Ev_t (by omega) (Ev_t (by omega) ?_))
              rw [e, rdi_Entry m i hi, rdi_Entry m (i - 1) (by omega), wr64s i (by omega)]
              exact Ev_b v2 (Ev_t rfl (Ev_t (by omega) (Ev_t (by omega) (Ev_t (by omega) (Ev_f hc (Ev_n rfl))))))
  obtain ⟨b, b1, b2, b3⟩ := go m.length 0 (by omega)
  refine ⟨b, by simp only [spec_l27State.f]; exact b1, by simp only [impl_ValidState.f]; exact b2, fun h => ?_⟩
  obtain ⟨c1, c2, c3⟩ := b3 h
  refine ⟨c1, fun i hi => c2 (i + 1) (by omega) (by omega) hi, fun y hy => ?_⟩
  obtain ⟨j, hj, rfl⟩ := List.mem_iff_getElem.1 hy
  exact c3 j (by omega) hj
end Go.Proofs.Ythnigkbbmhnafaa.Q
namespace Go.Proofs.Ythnigkbbmhnafaa.Q
open Go.RowKit Go.Proofs.YthnigkbbmhnafaaW.PrintWords Go.Proofs.YthnigkbbmhnafaaW.PrintLast Go.Proofs.YthnigkbbmhnafaaW.PrintMore
theorem ep_ev (a0 a1 : ByteArray) (a2 a3 : Int) (b : ByteArray) : impl_entryPlace_1.f a0 a1 a2 a3 b = some (Go.Lib.compareBytes a0.data.toList b.data.toList) := by
  unfold impl_entryPlace_1.f strings_Compare.f
  rfl
theorem keyE_iff (x : Ent) (u : ByteArray) : Go.Lib.compareBytes (fcE x) u.data.toList = 0 ↔ x.f0.toList = u.toList := by
  rw [cb_ord.zero]
  simp only [fcE, Go.ByteArray.toList_eq]
theorem bsE_ev (l : List Ent) (hl : (l.length : Int) ≤ 1048576) (u : ByteArray) (hr : Rsg (fun x => Go.Lib.compareBytes (fcE x) u.data.toList) l) :
    Ev (fun k => impl_Entry_string.f k l u) (((plc (fun x => Go.Lib.compareBytes (fcE x) u.data.toList) l : Nat) : Int), fnd (fun x => Go.Lib.compareBytes (fcE x) u.data.toList) l) := by
  have hp0 := plc_le (fun x => Go.Lib.compareBytes (fcE x) u.data.toList) l
  have go : ∀ (d i j : Nat), j = i + d → i ≤ plc (fun x => Go.Lib.compareBytes (fcE x) u.data.toList) l → plc (fun x => Go.Lib.compareBytes (fcE x) u.data.toList) l ≤ j → j ≤ l.length → Ev (fun k => impl_Entry_string.l0 k l u (l.length : Int) i j) (((plc (fun x => Go.Lib.compareBytes (fcE x) u.data.toList) l : Nat) : Int), fnd (fun x => Go.Lib.compareBytes (fcE x) u.data.toList) l) := by
    intro d
    induction d using Nat.strongRecOn with
    | _ d ih =>
    intro i j h1 h2 h3 h4
    refine Ev_suc ?_
    simp only [impl_Entry_string.l0]
    by_cases hd : d = 0
    · refine Ev_f (by omega) ?_
      have hp : plc (fun x => Go.Lib.compareBytes (fcE x) u.data.toList) l = i := by omega
      by_cases hn : i < l.length
      · refine Ev_t (by omega) (Ev_t (by omega) (Ev_t (by omega) ?_))
        rw [rdi_Entry l i hn, ep_ev]
        refine Ev_s (Ev_n ?_)
        unfold fnd
        rw [dif_pos (by omega)]
        simp only [hp]
        rfl
      · refine Ev_f (by omega) (Ev_n ?_)
        unfold fnd
        rw [dif_neg (by omega), hp]
    · refine Ev_t (by omega) ?_
      rw [mid_ev i j (by omega)]
      obtain ⟨m, hm⟩ : ∃ m, m = (i + j) / 2 := ⟨_, rfl⟩
      rw [← hm]
      have hm1 : m < l.length := by omega
      refine Ev_t (by omega) (Ev_t (by omega) ?_)
      rw [rdi_Entry l m hm1, ep_ev]
      refine Ev_s ?_
      by_cases hc : Go.Lib.compareBytes l[m].f0.data.toList u.data.toList < 0
      · refine Ev_t hc ?_
        rw [wr64s m (by omega)]
        refine ih (j - (m + 1)) (by omega) (m + 1) j (by omega) ?_ h3 h4
        rcases Nat.lt_or_ge m (plc (fun x => Go.Lib.compareBytes (fcE x) u.data.toList) l) with g | g
        · exact g
        · rcases Nat.lt_or_eq_of_le g with g | g
          · have hgt : 0 < Go.Lib.compareBytes (fcE l[m]) u.data.toList := hr.gt m hm1 g
            have hc' : Go.Lib.compareBytes (fcE l[m]) u.data.toList < 0 := hc
            omega
          · have := plc_at (fun x => Go.Lib.compareBytes (fcE x) u.data.toList) l (by omega)
            simp only [g] at this
            have hc' : Go.Lib.compareBytes (fcE l[m]) u.data.toList < 0 := hc
            omega
      · refine Ev_f hc ?_
        refine ih (m - i) (by omega) i m (by omega) h2 ?_ (by omega)
        rcases Nat.lt_or_ge m (plc (fun x => Go.Lib.compareBytes (fcE x) u.data.toList) l) with g | g
        · exact absurd (plc_lt _ l m hm1 g) hc
        · exact g
  simp only [impl_Entry_string.f]
  exact go l.length 0 l.length (by omega) (by omega) hp0 (Nat.le_refl _)
theorem findE_ev (l : List Ent) (hl : (l.length : Int) ≤ 1048576) (u : ByteArray) (hr : Rsg (fun x => Go.Lib.compareBytes (fcE x) u.data.toList) l) :
    Ev (fun k => spec_l27At.f k l u) (if fnd (fun x => Go.Lib.compareBytes (fcE x) u.data.toList) l = true then ((plc (fun x => Go.Lib.compareBytes (fcE x) u.data.toList) l : Nat) : Int) else -1) := by
  obtain ⟨c, hc⟩ : ∃ c, c = (fun x => Go.Lib.compareBytes (fcE x) u.data.toList) := ⟨_, rfl⟩
  rw [← hc] at hr ⊢
  have key : ∀ x, c x = 0 ↔ x.f0.toList = u.toList := fun x => by rw [hc]; exact keyE_iff x u
  have go : ∀ (d i : Nat), i + d = l.length → (∀ (j : Nat) (hj : j < l.length), j < i → c l[j] ≠ 0) → Ev (fun k => spec_l27At.l0 k l u i) (if fnd c l = true then ((plc c l : Nat) : Int) else -1) := by
    intro d
    induction d with
    | zero =>
      intro i h1 h2
      refine Ev_suc ?_
      simp only [spec_l27At.l0]
      refine Ev_f (by omega) (Ev_n ?_)
      rw [if_neg]
      intro h
      obtain ⟨hp, h0⟩ := fnd_t h
      exact h2 _ hp (by omega) h0
    | succ d ih =>
      intro i h1 h2
      refine Ev_suc ?_
      simp only [spec_l27At.l0]
      refine Ev_t (by omega) (Ev_t (by omega) ?_)
      rw [rdi_Entry l i (by omega), wr64s i (by omega)]
      have more : c l[i] ≠ 0 → Ev (fun k => spec_l27At.l0 k l u ((i + 1 : Nat) : Int)) (if fnd c l = true then ((plc c l : Nat) : Int) else -1) := fun hn =>
        ih (i + 1) (by omega) (fun j hj hji => by
          rcases Nat.lt_or_eq_of_le (Nat.le_of_lt_succ hji) with g | g
          · exact h2 j hj g
          · subst g; exact hn)
      by_cases e0 : l[i].f0.toList = u.toList
      · refine Ev_t e0 (Ev_n ?_)
        have hz := (key l[i]).2 e0
        have hp : plc c l = i := by
          rcases Nat.lt_trichotomy i (plc c l) with g | g | g
          · have := plc_lt c l i (by omega) g; omega
          · exact g.symm
          · have := hr.gt i (by omega) g; omega
        have hf : fnd c l = true := by
          unfold fnd
          rw [dif_pos (by omega)]
          simp only [hp, hz, decide_true]
        rw [if_pos hf, hp]
      · exact Ev_f e0 (more (fun h => e0 ((key _).1 h)))
  simp only [spec_l27At.f]
  exact go l.length 0 (by omega) (fun j _ hj => by omega)
theorem placeE_ev (l : List Ent) (hl : (l.length : Int) ≤ 1048576) (u : ByteArray) (hr : Rsg (fun x => Go.Lib.compareBytes (fcE x) u.data.toList) l) :
    Ev (fun k => impl_entryPlace.f k l u) (((plc (fun x => Go.Lib.compareBytes (fcE x) u.data.toList) l : Nat) : Int), fnd (fun x => Go.Lib.compareBytes (fcE x) u.data.toList) l) := by
  simp only [impl_entryPlace.f]
  exact Ev_b (bsE_ev l hl u hr) (Ev_n rfl)
end Go.Proofs.Ythnigkbbmhnafaa.Q
namespace Go.Proofs.Ythnigkbbmhnafaa.Q
open Go.RowKit Go.Proofs.YthnigkbbmhnafaaW.PrintWords Go.Proofs.YthnigkbbmhnafaaW.PrintLast Go.Proofs.YthnigkbbmhnafaaW.PrintMore
section
variable {α κ : Type} {c : κ → κ → Int} {key : α → κ}
theorem pwG_of (ho : Ordr c) (l : List α) (h : ∀ (i : Nat) (hi : i + 1 < l.length), c (key (l[i]'(by omega))) (key l[i + 1]) < 0) : l.Pairwise (fun x y => c (key x) (key y) < 0) := by
  rw [List.pairwise_iff_getElem]
  have q : ∀ (d i : Nat) (hj : i + d + 1 < l.length), c (key (l[i]'(by omega))) (key l[i + d + 1]) < 0 := by
    intro d
    induction d with
    | zero => intro i hj; exact h i hj
    | succ d ih => intro i hj; exact ho.trans _ _ _ (ih i (by omega)) (h (i + d + 1) (by omega))
  intro i j hi hj hij
  have e : i + (j - i - 1) + 1 = j := by omega
  have := q (j - i - 1) i (by omega)
  simp only [e] at this
  exact this
theorem rsgG (ho : Ordr c) {l : List α} (h : l.Pairwise (fun x y => c (key x) (key y) < 0)) (t : κ) : Rsg (fun x => c (key x) t) l := by
  intro i j hi hj h0
  exact ho.step ((List.pairwise_iff_getElem.1 h) i j (by omega) hj hi) h0
def putG (c : κ → κ → Int) (key : α → κ) (l : List α) (b : α) : List α :=
  if fnd (fun x => c (key x) (key b)) l = true then l.take (plc (fun x => c (key x) (key b)) l) ++ b :: l.drop (plc (fun x => c (key x) (key b)) l + 1)
  else l.take (plc (fun x => c (key x) (key b)) l) ++ b :: l.drop (plc (fun x => c (key x) (key b)) l)
theorem aheadG {l : List α} {t : κ} {x : α} (h : x ∈ l.take (plc (fun x => c (key x) t) l)) : c (key x) t < 0 := by
  obtain ⟨i, hi, rfl⟩ := List.mem_iff_getElem.1 h
  rw [List.getElem_take]
  exact plc_lt (fun x => c (key x) t) l i (by simp at hi; omega) (by simp at hi; omega)
theorem behindG {l : List α} {t : κ} (hr : Rsg (fun x => c (key x) t) l) {x : α} (h : x ∈ l.drop (plc (fun x => c (key x) t) l + 1)) : 0 < c (key x) t := by
  obtain ⟨i, hi, rfl⟩ := List.mem_iff_getElem.1 h
  rw [List.getElem_drop]
  exact hr.gt _ (by simp at hi; omega) (by omega)
theorem putG_pw (ho : Ordr c) {l : List α} (h : l.Pairwise (fun x y => c (key x) (key y) < 0)) (b : α) : (putG c key l b).Pairwise (fun x y => c (key x) (key y) < 0) := by
  have hr := rsgG ho h (key b)
  have hp := plc_le (fun x => c (key x) (key b)) l
  have key' : ∀ q, (∀ x ∈ l.drop q, 0 < c (key x) (key b)) → plc (fun x => c (key x) (key b)) l ≤ q → (l.take (plc (fun x => c (key x) (key b)) l) ++ b :: l.drop q).Pairwise (fun x y => c (key x) (key y) < 0) := by
    intro q hq hle
    rw [List.pairwise_append]
    refine ⟨h.sublist (List.take_sublist _ _), ?_, ?_⟩
    · rw [List.pairwise_cons]
      exact ⟨fun y hy => (ho.anti _ _).2 (hq y hy), h.sublist (List.drop_sublist _ _)⟩
    · intro x hx y hy
      have hx0 := aheadG hx
      rcases List.mem_cons.1 hy with e | e
      · subst e; exact hx0
      · exact ho.trans _ _ _ hx0 ((ho.anti _ _).2 (hq y e))
  unfold putG
  split
  · exact key' _ (fun x hx => behindG hr hx) (by omega)
  · rename_i hf
    refine key' _ (fun x hx => ?_) (Nat.le_refl _)
    obtain ⟨i, hi, rfl⟩ := List.mem_iff_getElem.1 hx
    rw [List.getElem_drop]
    simp at hi
    have hn := fnd_f hr (by simpa using hf) (plc (fun x => c (key x) (key b)) l + i) (by omega)
    rcases Nat.eq_zero_or_pos i with g | g
    · subst g
      have := plc_at (fun x => c (key x) (key b)) l (by omega)
      simp only [Nat.add_zero] at hn ⊢
      omega
    · exact hr.gt _ (by omega) (by omega)
theorem putG_len (l : List α) (b : α) : (putG c key l b).length ≤ l.length + 1 ∧ (fnd (fun x => c (key x) (key b)) l = true → (putG c key l b).length = l.length) ∧ (fnd (fun x => c (key x) (key b)) l = false → (putG c key l b).length = l.length + 1) := by
  have hp := plc_le (fun x => c (key x) (key b)) l
  unfold putG
  cases hf : fnd (fun x => c (key x) (key b)) l with
  | true =>
    obtain ⟨h1, _⟩ := fnd_t hf
    simp
    omega
  | false =>
    simp
    omega
end
end Go.Proofs.Ythnigkbbmhnafaa.Q
namespace Go.Proofs.Ythnigkbbmhnafaa.Q
open Go.RowKit Go.Proofs.YthnigkbbmhnafaaW.PrintWords Go.Proofs.YthnigkbbmhnafaaW.PrintLast Go.Proofs.YthnigkbbmhnafaaW.PrintMore
abbrev Chg := S87
abbrev risE (l : List Ent) : Prop := l.Pairwise (fun x y => Go.Lib.compareBytes (fcE x) (fcE y) < 0)
abbrev putE (l : List Ent) (b : Ent) : List Ent := putG Go.Lib.compareBytes fcE l b
theorem setE_ev (l : List Ent) (hl : (l.length : Int) ≤ 1048576) (b : Ent) (hr : Rsg (fun x => Go.Lib.compareBytes (fcE x) (fcE b)) l) : Ev (fun k => spec_l27Set.f k l b.f0 b.f1.f0 b.f1.f1 b.f1.f2) (putE l b) := by
  obtain ⟨c, hc⟩ : ∃ c, c = (fun x => Go.Lib.compareBytes (fcE x) (fcE b)) := ⟨_, rfl⟩
  unfold putE putG
  rw [← hc] at hr ⊢
  have key : ∀ x, c x = 0 ↔ x.f0.toList = b.f0.toList := fun x => by rw [hc]; exact keyE_iff x b.f0
  have cEq : ∀ y : Ent, Op.bytesLess y.f0.toList b.f0.toList = decide (c y < 0) := fun y => by
    rw [hc]
    have := less_iff y.f0.toList b.f0.toList
    simp only [fcE, Go.ByteArray.toList_eq] at this ⊢
    cases hb : Op.bytesLess y.f0.data.toList b.f0.data.toList with
    | true => exact (decide_eq_true (this.1 hb)).symm
    | false => exact (decide_eq_false (fun h => by rw [this.2 h] at hb; cases hb)).symm
  have hb : ∀ y : Ent, (⟨y.f0, (⟨y.f1.f0, y.f1.f1, y.f1.f2⟩ : S69)⟩ : Ent) = y := fun y => rfl
  have two : ∀ (d i : Nat) (out : List Ent), i + d = l.length → plc c l < i → out.length ≤ i + 1 → Ev (fun k => spec_l27Set.l0 k l out true i b.f0 b.f1.f0 b.f1.f1 b.f1.f2) (out ++ l.drop i) := by
    intro d
    induction d with
    | zero =>
      intro i out h1 h2 h3
      refine Ev_suc ?_
      simp only [spec_l27Set.l0]
      rw [List.drop_of_length_le (by omega), List.append_nil]
      exact Ev_f (by omega) (Ev_t (by first | exact True.intro | rfl) (Ev_n rfl))
    | succ d ih =>
      intro i out h1 h2 h3
      refine Ev_suc ?_
      simp only [spec_l27Set.l0]
      refine Ev_t (by omega) (Ev_t (by first | exact True.intro | rfl) (Ev_suc ?_))
      simp only [spec_l27Set.j1]
      refine Ev_f (by decide) (Ev_t (by omega) (Ev_t (by omega) ?_))
      rw [rdi_Entry l i (by omega), wr64s i (by omega), List.drop_eq_getElem_cons (show i < l.length by omega), hb]
      have hn : c l[i] ≠ 0 := by have := hr.gt i (by omega) h2; omega
      have nxt := ih (i + 1) (out ++ [l[i]]) (by omega) (by omega) (by simp; omega)
      rw [List.append_assoc, List.singleton_append] at nxt
      exact Ev_f (fun e0 => hn ((key _).2 e0)) (Ev_t (by omega) nxt)
  have one : ∀ (d i : Nat), i + d = plc c l → Ev (fun k => spec_l27Set.l0 k l (l.take i) false i b.f0 b.f1.f0 b.f1.f1 b.f1.f2) (if fnd c l = true then l.take (plc c l) ++ b :: l.drop (plc c l + 1) else l.take (plc c l) ++ b :: l.drop (plc c l)) := by
    have hp0 := plc_le c l
    intro d
    induction d with
    | zero =>
      intro i h1
      have h1' : i = plc c l := by omega
      subst h1'
      refine Ev_suc ?_
      simp only [spec_l27Set.l0]
      have hlen : (l.take (plc c l)).length = plc c l := by simp; omega
      by_cases hn : plc c l < l.length
      · refine Ev_t (by omega) (Ev_f (by decide) (Ev_t (by omega) (Ev_suc ?_)))
        rw [rdi_Entry l _ hn, cEq]
        have h0 := plc_at c l hn
        simp only [spec_l27Set.j1]
        refine Ev_t (by simpa using h0) (Ev_t (by omega) (Ev_s (Ev_t (by omega) (Ev_t (by omega) ?_))))
        rw [rdi_Entry l _ hn, hb, hb, wr64s _ (by omega)]
        have more : ∀ out : List Ent, out.length ≤ plc c l + 2 → Ev (fun k => spec_l27Set.l0 k l out true ((plc c l + 1 : Nat) : Int) b.f0 b.f1.f0 b.f1.f1 b.f1.f2) (out ++ l.drop (plc c l + 1)) := fun out ho =>
          two (l.length - (plc c l + 1)) (plc c l + 1) out (by omega) (by omega) ho
        by_cases hz : c l[plc c l] = 0
        · have hf : fnd c l = true := by unfold fnd; rw [dif_pos hn]; simpa using hz
          rw [if_pos hf]
          refine Ev_t ((key _).1 hz) ?_
          refine Ev_at (more _ (by simp; omega)) ?_
          rw [List.append_assoc, List.singleton_append]
        · have hf : ¬ fnd c l = true := by unfold fnd; rw [dif_pos hn]; simpa using hz
          rw [if_neg hf]
          refine Ev_f (fun e0 => hz ((key _).2 e0)) (Ev_t (by simp; omega) ?_)
          refine Ev_at (more (l.take (plc c l) ++ [b] ++ [l[plc c l]]) (by simp; omega)) ?_
          rw [List.append_assoc, List.append_assoc, List.singleton_append, List.singleton_append, List.getElem_cons_drop]
      · have hf : ¬ fnd c l = true := by unfold fnd; rw [dif_neg hn]; decide
        rw [if_neg hf, List.drop_of_length_le (by omega)]
        exact Ev_f (by omega) (Ev_f (by decide) (Ev_t (by omega) (Ev_n rfl)))
    | succ d ih =>
      intro i h1
      have hi : i < l.length := by omega
      have hlen : (l.take i).length = i := by simp; omega
      refine Ev_suc ?_
      simp only [spec_l27Set.l0]
      refine Ev_t (by omega) (Ev_f (by decide) (Ev_t (by omega) (Ev_suc ?_)))
      rw [rdi_Entry l i hi, cEq]
      have h0 := plc_lt c l i hi (by omega)
      simp only [spec_l27Set.j1]
      refine Ev_f (by simpa using h0) (Ev_t (by omega) (Ev_t (by omega) ?_))
      rw [rdi_Entry l i hi, hb, wr64s i (by omega)]
      have nxt := ih (i + 1) (by omega)
      rw [List.take_succ_eq_append_getElem hi] at nxt
      exact Ev_f (fun e0 => by have := (key _).2 e0; omega) (Ev_t (by omega) nxt)
  simp only [spec_l27Set.f]
  exact one (plc c l) 0 (by omega)
theorem chg_ev (x : Chg) : ∃ b, Ev (fun k => spec_l27Change.f k [x]) b ∧ Ev (fun k => impl_ApplyChanges_1.f k x.f0 x.f1.f0 x.f1.f1.f0 x.f1.f1.f1 x.f1.f1.f2) (!b) ∧ (b = true → 1 ≤ x.f0 ∧ x.f0 ≤ 2) := by
  have r0 : rd_T87 [x] 0 = x := rfl
  have i1 := in_f x.f0 1 2
  have i2 := within_f x.f0 1 2
  by_cases c1 : (decide ((1 : Int) ≤ x.f0) && decide (x.f0 ≤ 2)) = true
  case neg =>
    have c1' : (decide ((1 : Int) ≤ x.f0) && decide (x.f0 ≤ 2)) = false := by simpa using c1
    rw [c1'] at i1 i2
    refine ⟨false, ?_, ?_, fun h => by cases h⟩
    · simp only [spec_l27Change.f, r0]; exact Ev_t (by simp) (Ev_b (Ev_c i1) (Ev_f (by decide) (Ev_n rfl)))
    · simp only [impl_ApplyChanges_1.f]; exact Ev_b (Ev_c i2) (Ev_f (by decide) (Ev_n rfl))
  rw [c1] at i1 i2
  simp only [Bool.and_eq_true, decide_eq_true_eq] at c1
  obtain ⟨b, b1, b2, _⟩ := entry_ev x.f1
  refine ⟨b, ?_, ?_, fun _ => c1⟩
  · simp only [spec_l27Change.f, r0]; exact Ev_t (by simp) (Ev_b (Ev_c i1) (Ev_t rfl (Ev_b b1 (Ev_n rfl))))
  · simp only [impl_ApplyChanges_1.f]; exact Ev_b (Ev_c i2) (Ev_t rfl (Ev_b b2 (Ev_n rfl)))
theorem chgs_ev (m : List Ent) (hm : m.length ≤ 24) (x : List Chg) (hx : (x.length : Int) ≤ 1048576) : ∃ b, Ev (fun k => impl_Change_86.f k x) (!b) ∧ (b = true → (∀ y ∈ x, 1 ≤ y.f0 ∧ y.f0 ≤ 2) ∧ ∀ r, Ev (fun k => spec_ApplyChanges.l1 k x m 0) r → Ev (fun k => spec_ApplyChanges.l0 k m x 0) r) ∧ (b = false → Ev (fun k => spec_ApplyChanges.l0 k m x 0) (([] : List Ent), (1 : Int))) := by
  have go : ∀ (d i : Nat), i + d = x.length → ∃ b, (∃ q : Int, Ev (fun k => impl_Change_106.l0 k x (x.length : Int) i) q ∧ decide (q ≥ 0) = !b) ∧ (b = true → (∀ (j : Nat), i ≤ j → ∀ (hj : j < x.length), 1 ≤ x[j].f0 ∧ x[j].f0 ≤ 2) ∧ ∀ r, Ev (fun k => spec_ApplyChanges.l1 k x m 0) r → Ev (fun k => spec_ApplyChanges.l0 k m x i) r) ∧ (b = false → Ev (fun k => spec_ApplyChanges.l0 k m x i) (([] : List Ent), (1 : Int))) := by
    intro d
    induction d with
    | zero =>
      intro i h1
      refine ⟨true, ⟨-1, Ev_suc ?_, by decide⟩, fun _ => ⟨fun j h2 hj => by omega, fun r hr => Ev_suc ?_⟩, fun h => by cases h⟩
      · simp only [impl_Change_106.l0]; exact Ev_f (by omega) (Ev_n rfl)
      · simp only [spec_ApplyChanges.l0]
        refine Ev_f (by omega) (Ev_s (Ev_t (by simp; omega) ?_))
        rw [List.nil_append]
        exact hr
    | succ d ih =>
      intro i h1
      have hi : i < x.length := by omega
      obtain ⟨v, v1, v2, v3⟩ := chg_ev x[i]
      cases v with
      | false =>
        refine ⟨false, ⟨i, Ev_suc ?_, by simp⟩, fun h => (by cases h), fun _ => Ev_suc ?_⟩
        · simp only [impl_Change_106.l0]
          rw [rdi_Change x i hi]
          exact Ev_t (by omega) (Ev_t (by omega) (Ev_t (by omega) (Ev_b v2 (Ev_t rfl (Ev_n rfl)))))
        · simp only [spec_ApplyChanges.l0]
          rw [rdi_Change x i hi]
          exact Ev_t (by omega) (Ev_t (by omega) (Ev_b v1 (Ev_f (by decide) (Ev_n rfl))))
      | true =>
        obtain ⟨b, ⟨q, q1, q2⟩, b1, b2⟩ := ih (i + 1) (by omega)
        have st : ∀ r, Ev (fun k => spec_ApplyChanges.l0 k m x ((i + 1 : Nat) : Int)) r → Ev (fun k => spec_ApplyChanges.l0 k m x i) r := fun r hr => by
          refine Ev_suc ?_
          simp only [spec_ApplyChanges.l0]
          rw [rdi_Change x i hi, wr64s i (by omega)]
          exact Ev_t (by omega) (Ev_t (by omega) (Ev_b v1 (Ev_t rfl hr)))
        refine ⟨b, ⟨q, Ev_suc ?_, q2⟩, fun h => ⟨fun j h2 hj => ?_, fun r hr => st r ((b1 h).2 r hr)⟩, fun h => st _ (b2 h)⟩
        · simp only [impl_Change_106.l0]
          rw [rdi_Change x i hi, wr64s i (by omega)]
          exact Ev_t (by omega) (Ev_t (by omega) (Ev_t (by omega) (Ev_b v2 (Ev_f (by decide) q1))))
        · rcases Nat.lt_or_eq_of_le h2 with g | g
          · exact (b1 h).1 j (by omega) hj
          · subst g; exact v3 rfl
  obtain ⟨b, ⟨q, q1, q2⟩, b1, b2⟩ := go x.length 0 (by omega)
  refine ⟨b, ?_, fun h => ⟨fun y hy => ?_, (b1 h).2⟩, b2⟩
  · simp only [impl_Change_86.f, impl_Change_106.f]
    exact Ev_b q1 (Ev_n q2)
  · obtain ⟨j, hj, rfl⟩ := List.mem_iff_getElem.1 hy
    exact (b1 h).1 j (by omega) hj
theorem apply_ev (m : List Ent) (hl : (m.length : Int) ≤ 1048576) (x : List Chg) (hx : (x.length : Int) ≤ 1048576) : ∃ r c, r.length ≤ 1048576 ∧ Ev (fun k => spec_ApplyChanges.f k m x) (r, c) ∧ Ev (fun k => impl_ApplyChanges.f k m x) (r, c) := by
  obtain ⟨ok, e1, e2, hok⟩ := state_ev m hl
  cases ok with
  | false =>
    refine ⟨[], 1, by simp, ?_, ?_⟩
    · simp only [spec_ApplyChanges.f]; exact Ev_b e1 (Ev_f (by decide) (Ev_n rfl))
    · simp only [impl_ApplyChanges.f]; refine Ev_b e2 (Ev_f (by decide) (Ev_suc ?_)); simp only [impl_ApplyChanges.j0]; exact Ev_t (by first | exact True.intro | rfl) (Ev_n rfl)
  | true =>
    obtain ⟨n24, adj, _⟩ := hok rfl
    obtain ⟨b, c1, c2, c3⟩ := chgs_ev m n24 x hx
    cases b with
    | false =>
      refine ⟨[], 1, by simp, ?_, ?_⟩
      · simp only [spec_ApplyChanges.f]; exact Ev_b e1 (Ev_t rfl (c3 rfl))
      · simp only [impl_ApplyChanges.f]; refine Ev_b e2 (Ev_t rfl (Ev_b c1 (Ev_suc ?_))); simp only [impl_ApplyChanges.j0]; exact Ev_t rfl (Ev_n rfl)
    | true =>
      obtain ⟨kinds, more⟩ := c2 rfl
      have hb : ∀ y : Ent, (⟨y.f0, (⟨y.f1.f0, y.f1.f1, y.f1.f2⟩ : S69)⟩ : Ent) = y := fun y => rfl
      have go : ∀ (d i : Nat) (out : List Ent), i + d = x.length → risE out → out.length ≤ 24 → ∃ r c, r.length ≤ 1048576 ∧ Ev (fun k => spec_ApplyChanges.l1 k x out i) (r, c) ∧ Ev (fun k => impl_ApplyChanges.l0 k out x (x.length : Int) i) (r, c) := by
        intro d
        induction d with
        | zero =>
          intro i out h1 h2 h3
          refine ⟨out, 0, by omega, Ev_suc ?_, Ev_suc ?_⟩
          · simp only [spec_ApplyChanges.l1]; exact Ev_f (by omega) (Ev_n rfl)
          · simp only [impl_ApplyChanges.l0]; exact Ev_f (by omega) (Ev_n rfl)
        | succ d ih =>
          intro i out h1 h2 h3
          have hi : i < x.length := by omega
          have rx := rdi_Change x i hi
          have w := wr64s i (by omega)
          have hk := kinds x[i] (List.getElem_mem _)
          have hr := rsgG (key := fcE) cb_ord h2 (fcE x[i].f1)
          have f1 := findE_ev out (by omega) x[i].f1.f0 hr
          have f2 := placeE_ev out (by omega) x[i].f1.f0 hr
          have hpl := plc_le (fun y => Go.Lib.compareBytes (fcE y) x[i].f1.f0.data.toList) out
          have len := putG_len (c := Go.Lib.compareBytes) (key := fcE) out x[i].f1
          have pw : risE (putE out x[i].f1) := putG_pw cb_ord h2 x[i].f1
          have st := setE_ev out (by omega) x[i].f1 hr
          have unf : putE out x[i].f1 = if fnd (fun y => Go.Lib.compareBytes (fcE y) x[i].f1.f0.data.toList) out = true then out.take (plc (fun y => Go.Lib.compareBytes (fcE y) x[i].f1.f0.data.toList) out) ++ x[i].f1 :: out.drop (plc (fun y => Go.Lib.compareBytes (fcE y) x[i].f1.f0.data.toList) out + 1) else out.take (plc (fun y => Go.Lib.compareBytes (fcE y) x[i].f1.f0.data.toList) out) ++ x[i].f1 :: out.drop (plc (fun y => Go.Lib.compareBytes (fcE y) x[i].f1.f0.data.toList) out) := rfl
          have len' : (fnd (fun y => Go.Lib.compareBytes (fcE y) x[i].f1.f0.data.toList) out = true → (putE out x[i].f1).length = out.length) ∧ (fnd (fun y => Go.Lib.compareBytes (fcE y) x[i].f1.f0.data.toList) out = false → (putE out x[i].f1).length = out.length + 1) := len.2
          generalize hP : putE out x[i].f1 = P at pw st unf len'
          by_cases k1 : x[i].f0 = 1
          ·
            cases hf : fnd (fun y => Go.Lib.compareBytes (fcE y) x[i].f1.f0.data.toList) out with
            | true =>
              obtain ⟨hlt, _⟩ := fnd_t hf
              rw [hf] at f2
              rw [if_pos hf] at unf
              have l1 := len'.1 hf
              obtain ⟨r, c, r1, r2, r3⟩ := ih (i + 1) P (by omega) pw (by omega)
              refine ⟨r, c, r1, Ev_suc ?_, Ev_suc ?_⟩
              · simp only [spec_ApplyChanges.l1]
                rw [rx, w]
                exact Ev_t (by omega) (Ev_t (by omega) (Ev_t k1 (Ev_b st (Ev_f (by omega) r2))))
              · simp only [impl_ApplyChanges.l0]
                rw [rx]
                refine Ev_t (by omega) (Ev_t (by omega) (Ev_t (by omega) (Ev_b f2 (Ev_t k1 (Ev_suc ?_)))))
                simp only [impl_ApplyChanges.j2]
                rw [w, hb]
                refine Ev_t (by first | exact True.intro | rfl) (Ev_t (by show (0 : Int) ≤ _; omega) (Ev_t (by show _ < (out.length : Int); omega) ?_))
                have e : out.set (plc (fun y => Go.Lib.compareBytes (fcE y) x[i].f1.f0.data.toList) out) x[i].f1 = P := by
                  rw [unf, List.set_eq_take_append_cons_drop, if_pos hlt]
                rw [Int.toNat_natCast, e]
                exact r3
            | false =>
              rw [hf] at f2
              rw [if_neg (by rw [hf]; decide)] at unf
              have l1 := len'.2 hf
              by_cases full : out.length = 24
              · refine ⟨[], 5, by simp, Ev_suc ?_, Ev_suc ?_⟩
                · simp only [spec_ApplyChanges.l1]
                  rw [rx]
                  exact Ev_t (by omega) (Ev_t (by omega) (Ev_t k1 (Ev_b st (Ev_t (by omega) (Ev_n rfl)))))
                · simp only [impl_ApplyChanges.l0]
                  rw [rx]
                  refine Ev_t (by omega) (Ev_t (by omega) (Ev_t (by omega) (Ev_b f2 (Ev_t k1 (Ev_suc ?_)))))
                  simp only [impl_ApplyChanges.j2]
                  refine Ev_f (by decide) (Ev_t k1 (Ev_suc ?_))
                  simp only [impl_ApplyChanges.j3]
                  exact Ev_t (by simp [full]) (Ev_n rfl)
              · obtain ⟨r, c, r1, r2, r3⟩ := ih (i + 1) P (by omega) pw (by omega)
                refine ⟨r, c, r1, Ev_suc ?_, Ev_suc ?_⟩
                · simp only [spec_ApplyChanges.l1]
                  rw [rx, w]
                  exact Ev_t (by omega) (Ev_t (by omega) (Ev_t k1 (Ev_b st (Ev_f (by omega) r2))))
                · simp only [impl_ApplyChanges.l0]
                  rw [rx]
                  refine Ev_t (by omega) (Ev_t (by omega) (Ev_t (by omega) (Ev_b f2 (Ev_t k1 (Ev_suc ?_)))))
                  simp only [impl_ApplyChanges.j2]
                  refine Ev_f (by decide) (Ev_t k1 (Ev_suc ?_))
                  simp only [impl_ApplyChanges.j3]
                  rw [w, hb]
                  refine Ev_f (by simp; omega) (Ev_t k1 (Ev_b (a := P) (Ev_c ?_) r3))
                  unfold impl_Entry_89.f
                  simp only
                  rw [if_pos ⟨by omega, by omega, by omega⟩, Int.toNat_natCast, unf, List.append_assoc]
                  rfl
          ·
            cases hf : fnd (fun y => Go.Lib.compareBytes (fcE y) x[i].f1.f0.data.toList) out with
            | false =>
              rw [hf, if_neg (by decide)] at f1
              rw [hf] at f2
              refine ⟨[], 3, by simp, Ev_suc ?_, Ev_suc ?_⟩
              · simp only [spec_ApplyChanges.l1]
                rw [rx]
                exact Ev_t (by omega) (Ev_t (by omega) (Ev_f k1 (Ev_b f1 (Ev_t (by decide) (Ev_n rfl)))))
              · simp only [impl_ApplyChanges.l0]
                rw [rx]
                refine Ev_t (by omega) (Ev_t (by omega) (Ev_t (by omega) (Ev_b f2 (Ev_f k1 (Ev_suc ?_)))))
                simp only [impl_ApplyChanges.j2]
                refine Ev_f (by decide) (Ev_f k1 (Ev_suc ?_))
                simp only [impl_ApplyChanges.j3]
                exact Ev_f (by decide) (Ev_f k1 (Ev_f (by decide) (Ev_n rfl)))
            | true =>
              obtain ⟨hlt, _⟩ := fnd_t hf
              rw [hf, if_pos rfl] at f1
              rw [hf] at f2
              generalize plc (fun y => Go.Lib.compareBytes (fcE y) x[i].f1.f0.data.toList) out = p at hlt f1 f2
              have ro := rdi_Entry out p hlt
              by_cases dif : (!((((out[p]).f0).toList) == ((x[i].f1.f0).toList)) || ((!((((out[p]).f1.f0).toList) == ((x[i].f1.f1.f0).toList)) || (!(((out[p]).f1.f1) == (x[i].f1.f1.f1)) || (!(((out[p]).f1.f2) == (x[i].f1.f1.f2))))))) = true
              · refine ⟨[], 6, by simp, Ev_suc ?_, Ev_suc ?_⟩
                · simp only [spec_ApplyChanges.l1]
                  rw [rx]
                  refine Ev_t (by omega) (Ev_t (by omega) (Ev_f k1 (Ev_b f1 (Ev_f (by omega) (Ev_t (by omega) (Ev_t (by omega) ?_))))))
                  rw [ro]
                  exact Ev_t dif (Ev_n rfl)
                · simp only [impl_ApplyChanges.l0]
                  rw [rx]
                  refine Ev_t (by omega) (Ev_t (by omega) (Ev_t (by omega) (Ev_b f2 (Ev_f k1 (Ev_suc ?_)))))
                  simp only [impl_ApplyChanges.j2]
                  refine Ev_f (by decide) (Ev_f k1 (Ev_suc ?_))
                  simp only [impl_ApplyChanges.j3]
                  refine Ev_f (by decide) (Ev_f k1 (Ev_t (by first | exact True.intro | rfl) (Ev_t (by omega) (Ev_t (by omega) ?_))))
                  rw [ro]
                  exact Ev_t dif (Ev_n rfl)
              · have pd : risE (out.take p ++ out.drop (p + 1)) := by
                  have := h2.sublist (List.eraseIdx_sublist out p)
                  rwa [List.eraseIdx_eq_take_drop_succ] at this
                obtain ⟨r, c, r1, r2, r3⟩ := ih (i + 1) (out.take p ++ out.drop (p + 1)) (by omega) pd (by simp; omega)
                refine ⟨r, c, r1, Ev_suc ?_, Ev_suc ?_⟩
                · simp only [spec_ApplyChanges.l1]
                  rw [rx, w]
                  refine Ev_t (by omega) (Ev_t (by omega) (Ev_f k1 (Ev_b f1 (Ev_f (by omega) (Ev_t (by omega) (Ev_t (by omega) ?_))))))
                  rw [ro, wr64s p (by omega)]
                  refine Ev_f dif (Ev_s (Ev_t (by omega) (Ev_s (Ev_t (by simp; omega) (Ev_s ?_)))))
                  refine Ev_t (by omega) (Ev_t (by omega) (Ev_s (Ev_t (by simp; omega) ?_)))
                  rw [List.nil_append]
                  exact r2
                · simp only [impl_ApplyChanges.l0]
                  rw [rx]
                  refine Ev_t (by omega) (Ev_t (by omega) (Ev_t (by omega) (Ev_b f2 (Ev_f k1 (Ev_suc ?_)))))
                  simp only [impl_ApplyChanges.j2]
                  refine Ev_f (by decide) (Ev_f k1 (Ev_suc ?_))
                  simp only [impl_ApplyChanges.j3]
                  rw [w, wr64s p (by omega)]
                  refine Ev_f (by decide) (Ev_f k1 (Ev_t (by first | exact True.intro | rfl) (Ev_t (by omega) (Ev_t (by omega) ?_))))
                  rw [ro]
                  refine Ev_f dif (Ev_b (a := out.take p ++ out.drop (p + 1)) (Ev_c ?_) r3)
                  unfold impl_Entry_90.f
                  rw [if_pos ⟨by omega, by omega, by omega⟩, Int.toNat_natCast, List.eraseIdx_eq_take_drop_succ]
      have ris : risE m := pwG_of cb_ord m adj
      obtain ⟨r, c, r1, r2, r3⟩ := go x.length 0 m (by omega) ris n24
      refine ⟨r, c, r1, ?_, ?_⟩
      · simp only [spec_ApplyChanges.f]; exact Ev_b e1 (Ev_t rfl (more _ r2))
      · simp only [impl_ApplyChanges.f]
        refine Ev_b e2 (Ev_t rfl (Ev_b c1 (Ev_suc ?_)))
        simp only [impl_ApplyChanges.j0]
        refine Ev_f (by decide) (Ev_b (a := m) (Ev_c (by unfold impl_Entry_88.f; rw [if_pos (by omega)])) r3)
end Go.Proofs.Ythnigkbbmhnafaa.Q
namespace Go.Proofs.Ythnigkbbmhnafaa.Q
open Go.RowKit Go.Proofs.YthnigkbbmhnafaaW.PrintWords Go.Proofs.YthnigkbbmhnafaaW.PrintLast Go.Proofs.YthnigkbbmhnafaaW.PrintMore
set_option linter.unusedVariables false
theorem law_ApplyChanges : laws_FnExactApplyChanges.Pure := by
  intro x x2 hx hx2
  have hM : maxLen = 9223372036854775807 := by decide
  refine Ev.rounds (r := true) ?_
  simp only [laws_FnExactApplyChanges.f]
  refine Ev_b (szS_Entry x hx.1 hx.2 (1048576) (by omega) (by omega)) ?_
  by_cases cx : ((ZS_Entry x : Nat) : Int) ≤ 1048576
  case neg => rw [cut_neg cx]; exact Ev_t (by decide) (Ev_n rfl)
  rw [cut_pos cx]
  refine Ev_f (by omega) ?_
  refine Ev_b (szS_Change x2 hx2.1 hx2.2 (1048576 - ((ZS_Entry x : Nat) : Int)) (by omega) (by omega)) ?_
  by_cases cx2 : ((ZS_Change x2 : Nat) : Int) ≤ 1048576 - ((ZS_Entry x : Nat) : Int)
  case neg => rw [cut_neg cx2]; exact Ev_t (by decide) (Ev_n rfl)
  rw [cut_pos cx2]
  refine Ev_f (by omega) ?_
  have nx : (x.length : Int) ≤ 1048576 := by have := (ZS_in_Entry x).1; omega
  have bx : ∀ q_ ∈ x, B_Entry q_ := fun q_ hq_ => B_of_Entry q_ (by have := (ZS_in_Entry x).2 q_ hq_; omega)
  have mx : ((x.map conv_Entry).length : Int) ≤ 1048576 := by simpa using nx
  have Ex : ∀ q_ ∈ x.map conv_Entry, E_Entry q_ := fun y hy => by obtain ⟨u, hu, rfl⟩ := List.mem_map.1 hy; exact E_of_Entry u (bx u hu)
  have tx := toS_Entry x nx bx
  have qx := eqS_Entry (x.map conv_Entry) mx Ex
  have zx : ∀ q_ ∈ x.map conv_Entry, ∃ u ∈ x, conv_Entry u = q_ ∧ ((Z_Entry u : Nat) : Int) ≤ 1048576 := fun y hy => by obtain ⟨u, hu, e⟩ := List.mem_map.1 hy; exact ⟨u, hu, e, by have := (ZS_in_Entry x).2 u hu; omega⟩
  have nx2 : (x2.length : Int) ≤ 1048576 := by have := (ZS_in_Change x2).1; omega
  have bx2 : ∀ q_ ∈ x2, B_Change q_ := fun q_ hq_ => B_of_Change q_ (by have := (ZS_in_Change x2).2 q_ hq_; omega)
  have mx2 : ((x2.map conv_Change).length : Int) ≤ 1048576 := by simpa using nx2
  have Ex2 : ∀ q_ ∈ x2.map conv_Change, E_Change q_ := fun y hy => by obtain ⟨u, hu, rfl⟩ := List.mem_map.1 hy; exact E_of_Change u (bx2 u hu)
  have tx2 := toS_Change x2 nx2 bx2
  have qx2 := eqS_Change (x2.map conv_Change) mx2 Ex2
  have zx2 : ∀ q_ ∈ x2.map conv_Change, ∃ u ∈ x2, conv_Change u = q_ ∧ ((Z_Change u : Nat) : Int) ≤ 1048576 := fun y hy => by obtain ⟨u, hu, e⟩ := List.mem_map.1 hy; exact ⟨u, hu, e, by have := (ZS_in_Change x2).2 u hu; omega⟩
  obtain ⟨r0, r1, E0, e1, e2⟩ := apply_ev (x.map conv_Entry) mx (x2.map conv_Change) mx2
  have qr0 := eqS_Entry r0 (by omega) (by first | exact E_r0 | (intro y _; trivial))
  obtain ⟨px, _, mmx, _⟩ := mk_Entry (x.map conv_Entry) (1) (by omega) (by omega) (by omega)
  obtain ⟨px2, _, mmx2, _⟩ := mk_Change (x2.map conv_Change) (1 + 4 * ((x.map conv_Entry).length : Int)) (by omega) (by omega) (by omega)
  obtain ⟨pr0, _, mr0, hr0⟩ := mk_Entry r0 1 (by omega) (by omega) (by omega)
  repeat' (first | ((first | (with_reducible refine Ev_b e1 ?_) | (with_reducible refine Ev_b e2 ?_) | (with_reducible refine Ev_b tx ?_) | (with_reducible refine Ev_b qx ?_) | (with_reducible refine Ev_b tx2 ?_) | (with_reducible refine Ev_b qx2 ?_) | (with_reducible refine Ev_b qr0 ?_) | (with_reducible refine Ev_b mmx ?_) | (with_reducible refine Ev_b mmx2 ?_) | (with_reducible refine Ev_b mr0 ?_) | (with_reducible refine Ev_b hr0 ?_)); try dsimp only) | (with_reducible refine Ev_t rfl ?_) | (with_reducible refine Ev_t True.intro ?_) | (refine Ev_f (by omega) ?_) | (refine Ev_t (by omega) ?_) | (refine Ev_f (by simp) ?_) | exact Ev_n rfl | (refine Ev_suc ?_; first | simp only [laws_FnExactApplyChanges.j0] | simp only [laws_FnExactApplyChanges.j1] | simp only [laws_FnExactApplyChanges.j2]))
end Go.Proofs.Ythnigkbbmhnafaa.Q
namespace Go.Proofs.Ythnigkbbmhnafaa.Pure
open Go.Proofs.Ythnigkbbmhnafaa.Q
theorem FnExactApplyChanges : laws_FnExactApplyChanges.Pure := law_ApplyChanges
end Go.Proofs.Ythnigkbbmhnafaa.Pure
namespace Go.Proofs.Ythnigkbbmhnafaa.fnExactApplyChanges
open Go.ChangeShapes Go.WideShapes Go.ChangeAt Go.RowKit Go.Proofs.Ythnigkbbmhnafaa.OPN Go.Proofs.Ythnigkbbmhnafaa.Q Go.Proofs.YthnigkbbmhnafaaW.PrintWords
open Go.ChangeMaps (open_string shut_string)
set_option linter.unusedVariables false
theorem own : ownKnob Try.prog.godebug = none := by kernel_rfl
theorem laidOut : laidOutB Try.prog = true := by kernel_rfl
set_option maxRecDepth 100000 in
theorem lifted (os : Os) (started : os.Started) (H : Type) (enc : TypeId × Value → H) :
    ReturnsInHanded {} Try.checked os 12 .any (Rows.fnExactApplyChangesSpec.pre6 enc Try.prog Try.f12 Rows.fnExactApplyChangesRow.domain false) (Rows.fnExactApplyChangesSpec.post enc Try.prog Try.f12 false true false false) := by
  refine returnsInHanded_of_change_sized (C := Try.checked) own started (by kernel_rfl) Try.func12
    (ChangeSpec.witness6 (enc := enc) (C := Try.checked) false ⟨#[], #[.slice none 0 0, .slice none 0 0], []⟩ 8 (by kernel_rfl) (by kernel_rfl) (by kernel_rfl) (by kernel_rfl)) ?_
  intro W base args ds gs before hval0 hW hcnd hsz0 _
  have hval : ∀ (j : Nat) t v, Try.f12.params[j]? = some t → args[j]? = some v → Value.okWide Try.prog W .any base t v := hval0
  have hW' := hW
  obtain ⟨p, q, hA0, hV, rfl, hfz, hnd⟩ := hW
  have hA : DataW.TrodAll enc Try.prog W 0 (fun _ => true) true Try.f12.params.toList args.toList ds p := hA0
  rw [Try.params12] at hA hval
  obtain ⟨v0, vs0, d0, ds0, p0, q0, hargs, rfl, rfl, h0, r0⟩ := trodAll_cons hA
  obtain ⟨v1, vs1, d1, ds1, p1, q1, rfl, rfl, rfl, h1, r1⟩ := trodAll_cons r0
  obtain ⟨rfl, rfl, rfl⟩ := trodAll_nil r1
  obtain rfl : args = #[v0, v1] := by cases args; simp_all
  obtain ⟨rfl, rfl⟩ := trodVars_none hV
  have lt0 : ∀ x ∈ p0, x.block < W.heap.size := by obtain ⟨m, hm⟩ := h0; exact DataW.trod_lt m _ _ _ hm
  have k0 := h0
  obtain ⟨z0, y0, u0, rfl⟩ := okWide_slice Try.underlying22 (hval 0 22 v0 rfl rfl)
  obtain ⟨fu0, hf0⟩ := h0
  obtain ⟨x0, ⟨A0, c0, hcs0, hc0, hr0⟩, w0⟩ := ((opn_slice Try.underlying22 (by kernel_rfl) opn68) : Opn _ _ (Kd.slice 68 k68) _).get rfl hf0
  obtain ⟨rfl, rfl, rfl⟩ : A0 = z0 ∧ x0.length = y0 ∧ c0 = u0 := (fun (h_ : z0 = A0 ∧ y0 = x0.length ∧ u0 = c0) => ⟨h_.1.symm, h_.2.1.symm, h_.2.2.symm⟩) (by simpa [Value.cells] using hcs0)
  have lt1 : ∀ x ∈ p1, x.block < W.heap.size := by obtain ⟨m, hm⟩ := h1; exact DataW.trod_lt m _ _ _ hm
  have k1 := h1
  obtain ⟨z1, y1, u1, rfl⟩ := okWide_slice Try.underlying58 (hval 1 58 v1 rfl rfl)
  obtain ⟨fu1, hf1⟩ := h1
  obtain ⟨x1, ⟨A1, c1, hcs1, hc1, hr1⟩, w1⟩ := ((opn_slice Try.underlying58 (by kernel_rfl) opn101) : Opn _ _ (Kd.slice 101 k101) _).get rfl hf1
  obtain ⟨rfl, rfl, rfl⟩ : A1 = z1 ∧ x1.length = y1 ∧ c1 = u1 := (fun (h_ : z1 = A1 ∧ y1 = x1.length ∧ u1 = c1) => ⟨h_.1.symm, h_.2.1.symm, h_.2.2.symm⟩) (by simpa [Value.cells] using hcs1)
  clear hA0 hval0 hsz0
  obtain ⟨k, hP⟩ := Pure.FnExactApplyChanges x0 x1 w0 w1
  refine (laws_FnExactApplyChanges.calls k A0 c0 x0 A1 c1 x1 true W hr0 hc0 hr1 hc1 hP).mono fun e W' hh => ?_
  obtain ⟨rfl, bel0⟩ := hh
  have bel : Below W.heap.size W W' := bel0
  exact ⟨_, rfl, _, _, _, [], _, [], hW', trodAll_mk1 (shut_bool Try.underlying4 _), (trodAll_cons_mk (Below.trod laidOut (by kernel_rfl) (of_decide_eq_true (by kernel_rfl)) k0 bel lt0) (trodAll_cons_mk (Below.trod laidOut (by kernel_rfl) (of_decide_eq_true (by kernel_rfl)) k1 bel lt1) trodAll_mk0)), rfl, bel.frame _, fun h => by cases h⟩
theorem over : Rows.fnExactApplyChangesRow.holds Try.pinned (OpenSpec.ofChange Rows.fnExactApplyChangesSpec) :=
  OpenClaim.holds_of_wide 12 Try.f12 rfl rfl rfl rfl rfl rfl rfl ⟨rfl, rfl, rfl, rfl, rfl⟩ rfl rfl rfl rfl rfl (by kernel_rfl) Try.func12 (by kernel_rfl)
    (of_decide_eq_true (by kernel_rfl)) (by unfold Func.isWrapper; first | (rw [if_pos (by decide +kernel)]; kernel_rfl) | (rw [if_neg (by decide +kernel)]; exact ⟨rfl, rfl⟩))
    (fun os started H enc _ => lifted os started H enc)
theorem proved : Rows.FnExactApplyChangesSaid := over
#print axioms proved
end Go.Proofs.Ythnigkbbmhnafaa.fnExactApplyChanges
namespace Go.Proofs.Ythnigkbbmhnafaa
theorem fnExactApplyChanges_holds : Rows.FnExactApplyChangesSaid := fnExactApplyChanges.proved
end Go.Proofs.Ythnigkbbmhnafaa
