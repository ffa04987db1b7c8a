/- Own lemmas: the pieces and the joints of a row, by the reference and by the program. -/
import Derived.Test.YtmdhniaelmipcaaQ0
import Derived.Test.YtmdhniaelmipcaaQ6
import Derived.Test.YtmdhniaelmipcaaQPa
import Derived.Test.YtmdhniaelmipcaaQPi
namespace Go.Proofs.Ytmdhniaelmipcaa.Q
open Go.RowKit Go.Proofs.YtmdhniaelmipcaaW.PrintWords Go.Proofs.YtmdhniaelmipcaaW.PrintLast Go.Proofs.YtmdhniaelmipcaaW.PrintMore
def js (a : Int) : List Int → List Int
  | [] => []
  | x :: t => a :: js (a + x) t
theorem js_length (a : Int) (t : List Int) : (js a t).length = t.length := by
  induction t generalizing a with
  | nil => rfl
  | cons x t ih => simp [js, ih]
theorem loops (y : S31) (W l : Int) (h1 : 1 ≤ y.f0) (h2 : y.f0 ≤ 5000) (hW : W ≤ 20000) : ∀ (n : Nat) (rest at_ : Int) (p j : List Int) (c : Int), rest.toNat ≤ n → 0 < rest → at_ + rest = W → 0 ≤ at_ →
    p.length + n ≤ 100000 → j.length + n ≤ 100000 → ∃ (t : List Int) (L : Int), t.length ≤ n ∧ (∀ x ∈ t, 0 ≤ x ∧ x ≤ 20000) ∧ ∀ k, n + 1 < k →
      spec_l30Pieces.l0 k [y] p rest = some (if L < y.f2 then ([], 6) else (p ++ t, 0)) ∧
      impl_makeRow.l0 k at_ W l y.f0 y.f1 y.f2 y.f3 p j c = some (if L < y.f2 then ([], [], 0, 6) else (p ++ t, j ++ js at_ t, L, 0)) := by
  intro n
  induction n with
  | zero => intro rest at_ p j c a b; omega
  | succ n ih =>
    intro rest at_ p j c ha hb hc hd he hf
    by_cases hr : rest > y.f0
    · obtain ⟨t, L, ht, hx, hk⟩ := ih (rest - y.f0) (at_ + y.f0) (p ++ [y.f0]) (j ++ [at_]) y.f0 (by omega) (by omega) (by omega) (by omega) (by simp; omega) (by simp; omega)
      refine ⟨y.f0 :: t, L, by simp; omega, ?_, fun k hk0 => ?_⟩
      · intro x hxm
        rcases List.mem_cons.1 hxm with rfl | hxm
        · omega
        · exact hx x hxm
      · obtain ⟨k, rfl⟩ : ∃ m, k = m + 1 := ⟨k - 1, by omega⟩
        obtain ⟨e1, e2⟩ := hk k (by omega)
        constructor
        · simp only [spec_l30Pieces.l0]
          rw [if_pos (by simp)]
          have hrd : rd_T31 [y] 0 = y := rfl
          rw [hrd, if_pos hr, if_pos (by omega), w64 (by omega) (by omega), e1]
          simp
        · simp only [impl_makeRow.l0]
          have hm : mn (wrap64 (W - at_)) y.f0 = y.f0 := by rw [w64 (by omega) (by omega)]; unfold mn; rw [if_pos (by omega)]
          rw [hm, if_pos (by omega), if_pos (by omega), if_pos (by omega), w64 (by omega) (by omega), e2]
          simp [js]
    · refine ⟨[rest], rest, by simp, ?_, fun k hk0 => ?_⟩
      · intro x hxm
        have : x = rest := by simpa using hxm
        omega
      · obtain ⟨k, rfl⟩ : ∃ m, k = m + 2 := ⟨k - 2, by omega⟩
        constructor
        · simp only [spec_l30Pieces.l0]
          rw [if_pos (by simp)]
          have hrd : rd_T31 [y] 0 = y := rfl
          rw [hrd, if_neg hr]
          by_cases hL : rest < y.f2
          · rw [if_pos hL, if_pos hL]
          · rw [if_neg hL, if_neg hL, if_pos (by omega)]
        · simp only [impl_makeRow.l0]
          have hm : mn (wrap64 (W - at_)) y.f0 = rest := by rw [w64 (by omega) (by omega)]; unfold mn; split <;> omega
          rw [hm, if_pos (by omega), if_pos (by omega), if_pos (by omega), w64 (x := at_ + rest) (by omega) (by omega), if_neg (by omega)]
          by_cases hL : rest < y.f2
          · rw [if_pos hL, if_pos hL]
          · rw [if_neg hL, if_neg hL]; simp [js]
/-- What both come to: the pieces f :: t (or none) with a code, the joints, the last piece. -/
theorem row_same (x : S25) (y : S31) (a : Int) (hx : vRoom x.f0 x.f1 = true) (hy : vStock y.f0 y.f1 y.f2 y.f3 = true) :
    ∃ (p j : List Int) (L c : Int), p.length ≤ 30000 ∧ j.length ≤ 30000 ∧ (∀ x ∈ p, 0 ≤ x ∧ x ≤ 20000) ∧ (∀ k, 30000 < k →
      spec_l30Pieces.f k [x] [y] a = some (p, c) ∧ impl_makeRow.f k x.f0 x.f1 y.f0 y.f1 y.f2 y.f3 a = some (p, j, L, c)) ∧ (c = 0 → ∃ f t, p = f :: t ∧ j = js f t) ∧ (c ≠ 0 → p = [] ∧ j = []) := by
  have hxw := vRoom_wide hx
  have hyw := vStock_wide hy
  have hrd : rd_T31 [y] 0 = y := rfl
  have hrx : rd_T25 [x] 0 = x := rfl
  by_cases hin : (decide (y.f2 ≤ a) && decide (a ≤ y.f0)) = true
  · have hin' : y.f2 ≤ a ∧ a ≤ y.f0 := by simpa using hin
    by_cases hle : x.f0 ≤ a
    · refine ⟨[x.f0], [], x.f0, 0, by simp, by simp, ?_, fun k hk => ⟨?_, ?_⟩, fun _ => ⟨x.f0, [], rfl, rfl⟩, fun h => absurd rfl h⟩
      · intro z hz
        have : z = x.f0 := by simpa using hz
        omega
      · unfold spec_l30Pieces.f
        rw [if_pos (by simp), hrd, hrx, in_f, hin]
        simp [hle]
      · unfold impl_makeRow.f
        rw [within_f, hin]
        simp [hle]
    · obtain ⟨t, L, ht, hz, hk⟩ := loops y x.f0 x.f1 (by omega) (by omega) (by omega) (x.f0 - a).toNat (x.f0 - a) a [a] [] 0 (by omega) (by omega) (by omega) (by omega) (by simp; omega) (by simp; omega)
      have hs : ∀ k, 30000 < k → spec_l30Pieces.f k [x] [y] a = spec_l30Pieces.l0 k [y] [a] (x.f0 - a) := by
        intro k _
        unfold spec_l30Pieces.f
        rw [if_pos (by simp), hrd, hrx, in_f, hin]
        simp only [Option.bind_some, if_true]
        rw [if_pos (by simp), if_neg hle, w64 (by omega) (by omega)]
      have hi : ∀ k, 30000 < k → impl_makeRow.f k x.f0 x.f1 y.f0 y.f1 y.f2 y.f3 a = impl_makeRow.l0 k a x.f0 x.f1 y.f0 y.f1 y.f2 y.f3 [a] [] 0 := by
        intro k _
        unfold impl_makeRow.f
        rw [within_f, hin]
        simp only [Option.bind_some, if_true]
        rw [if_neg hle]
      by_cases hL : L < y.f2
      · refine ⟨[], [], 0, 6, by simp, by simp, by simp, fun k hk0 => ?_, fun h => absurd h (by decide), fun _ => ⟨rfl, rfl⟩⟩
        obtain ⟨e1, e2⟩ := hk k (by omega)
        rw [hs k hk0, hi k hk0, e1, e2, if_pos hL, if_pos hL]
        exact ⟨rfl, rfl⟩
      · refine ⟨a :: t, js a t, L, 0, by simp; omega, by rw [js_length]; omega, ?_, fun k hk0 => ?_, fun _ => ⟨a, t, rfl, rfl⟩, fun h => absurd rfl h⟩
        · intro z hzm
          rcases List.mem_cons.1 hzm with rfl | hzm
          · omega
          · exact hz z hzm
        · obtain ⟨e1, e2⟩ := hk k (by omega)
          rw [hs k hk0, hi k hk0, e1, e2, if_neg hL, if_neg hL]
          exact ⟨rfl, rfl⟩
  · refine ⟨[], [], 0, 2, by simp, by simp, by simp, fun k hk => ⟨?_, ?_⟩, fun h => absurd h (by decide), fun _ => ⟨rfl, rfl⟩⟩
    · unfold spec_l30Pieces.f
      rw [if_pos (by simp), hrd, in_f]
      simp only [Bool.not_eq_true] at hin
      simp [hin]
    · unfold impl_makeRow.f
      rw [within_f]
      simp only [Bool.not_eq_true] at hin
      simp [hin]
end Go.Proofs.Ytmdhniaelmipcaa.Q
