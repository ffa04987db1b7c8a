/- Own lemmas: the laws' own helpers on lists of numbers (equal, marked, held). -/
import Derived.Test.YtmdhniaelmipcaaQ0
import Derived.Test.YtmdhniaelmipcaaQ7
namespace Go.Proofs.Ytmdhniaelmipcaa.Q
open Go.RowKit Go.Proofs.YtmdhniaelmipcaaW.PrintWords Go.Proofs.YtmdhniaelmipcaaW.PrintLast Go.Proofs.YtmdhniaelmipcaaW.PrintMore
theorem w64 {x : Int} (h0 : -9223372036854775808 ≤ x) (h1 : x < 9223372036854775808) : wrap64 x = x := by unfold wrap64; omega
def ups (m : Int) (n : Nat) : List Int := (List.range n).map fun (i : Nat) => m + (i : Int)
theorem ups_length (m : Int) (n : Nat) : (ups m n).length = n := by simp [ups]
theorem ups_cons (m : Int) (n : Nat) : ups m (n + 1) = m :: ups (m + 1) n := by
  simp only [ups, List.range_succ_eq_map, List.map_cons, List.map_map]
  congr 1
  · simp
  · apply List.map_congr_left
    intro i _
    simp only [Function.comp]
    omega
theorem eqInt64S_ev (l : List Int) (hl : l.length < 4611686018427387904) : ∀ k, l.length < k → laws_eqInt64S.f k l l = some true := by
  have go : ∀ (d k : Nat) (i : Int), 0 ≤ i → i + d = l.length → d < k → laws_eqInt64S.l0 k l l i = some true := by
    intro d
    induction d with
    | zero =>
      intro k i h0 h1 hk
      obtain ⟨k, rfl⟩ : ∃ m, k = m + 1 := ⟨k - 1, by omega⟩
      simp only [laws_eqInt64S.l0]
      rw [if_neg (by omega)]
    | succ d ih =>
      intro k i h0 h1 hk
      obtain ⟨k, rfl⟩ : ∃ m, k = m + 1 := ⟨k - 1, by omega⟩
      simp only [laws_eqInt64S.l0]
      rw [if_pos (by omega), if_pos h0, if_pos (by omega)]
      simp only [if_true]
      rw [w64 (by omega) (by omega)]
      exact ih k (i + 1) (by omega) (by omega) (by omega)
  intro k hk
  unfold laws_eqInt64S.f
  rw [if_pos rfl]
  exact go l.length k 0 (by omega) (by omega) hk
theorem set_drop_take (xs : List Int) (i : Nat) (m : Int) (h : i < xs.length) : (xs.set i m).take (i + 1) = xs.take i ++ [m] := by
  rw [List.take_succ_eq_append_getElem (by simpa using h)]
  congr 1
  · rw [List.take_set_of_le (Nat.le_refl _)]
  · simp
theorem markInt64S_ev (l : List Int) (m : Int) (h0 : 0 ≤ m) (hl : m + l.length < 4611686018427387904) : ∀ k, l.length < k → laws_markInt64S.f k l m = some (m + l.length, ups m l.length) := by
  have go : ∀ (d k : Nat) (xs : List Int) (q : Int) (i : Nat), i + d = xs.length → d < k → 0 ≤ q → q + d < 4611686018427387904 → (xs.length : Int) < 4611686018427387904 → laws_markInt64S.l0 k xs q i = some (q + d, xs.take i ++ ups q d) := by
    intro d
    induction d with
    | zero =>
      intro k xs q i h1 hk _ _ _
      obtain ⟨k, rfl⟩ : ∃ m, k = m + 1 := ⟨k - 1, by omega⟩
      simp only [laws_markInt64S.l0]
      rw [if_neg (by omega), List.take_of_length_le (by omega)]
      simp [ups]
    | succ d ih =>
      intro k xs q i h1 hk h2 h3 h4
      obtain ⟨k, rfl⟩ : ∃ m, k = m + 1 := ⟨k - 1, by omega⟩
      simp only [laws_markInt64S.l0]
      rw [if_pos (by omega), if_pos (by omega), w64 (by omega) (by omega), w64 (by omega) (by omega)]
      have := ih k (xs.set i q) (q + 1) (i + 1) (by rw [List.length_set]; omega) (by omega) (by omega) (by omega) (by rw [List.length_set]; omega)
      rw [Int.toNat_natCast, show ((i : Int) + 1) = ((i + 1 : Nat) : Int) by omega, this, set_drop_take _ _ _ (by omega), ups_cons]
      simp only [List.append_assoc, List.singleton_append, Option.some.injEq, Prod.mk.injEq, and_true]
      omega
  intro k hk
  unfold laws_markInt64S.f
  have := go l.length k l m 0 (by omega) hk h0 hl (by omega)
  simpa using this
theorem heldInt64S_ev (m : Int) (n : Nat) (h0 : 0 ≤ m) (hl : m + n < 4611686018427387904) : ∀ k, n < k → laws_heldInt64S.f k (ups m n) m = some (m + n) := by
  have go : ∀ (d k : Nat) (q : Int) (i : Nat), i + d = n → q = m + i → d < k → laws_heldInt64S.l0 k (ups m n) q i = some (q + d) := by
    intro d
    induction d with
    | zero =>
      intro k q i h1 h2 hk
      obtain ⟨k, rfl⟩ : ∃ m, k = m + 1 := ⟨k - 1, by omega⟩
      simp only [laws_heldInt64S.l0]
      rw [if_neg (by rw [ups_length]; omega)]
      simp
    | succ d ih =>
      intro k q i h1 h2 hk
      obtain ⟨k, rfl⟩ : ∃ m, k = m + 1 := ⟨k - 1, by omega⟩
      simp only [laws_heldInt64S.l0]
      have hrd : rd (ups m n) (i : Int) = q := by
        unfold rd ups
        rw [List.getD_eq_getElem?_getD, List.getElem?_map, List.getElem?_range (by omega)]
        simp [h2]
      rw [if_pos (by rw [ups_length]; omega), if_pos (by omega), hrd, if_pos rfl, w64 (by omega) (by omega), w64 (by omega) (by omega)]
      have := ih k (q + 1) (i + 1) (by omega) (by omega) (by omega)
      rw [show ((i : Int) + 1) = ((i + 1 : Nat) : Int) by omega, this]
      simp only [Option.some.injEq]
      omega
  intro k hk
  unfold laws_heldInt64S.f
  have := go n k m 0 (by omega) (by omega) hk
  simpa using this
end Go.Proofs.Ytmdhniaelmipcaa.Q
