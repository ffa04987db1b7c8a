/- Own lemma: RowPieces. -/
import Derived.Test.YtmdhniaelmipcaaQ0
import Derived.Test.YtmdhniaelmipcaaQ1
import Derived.Test.YtmdhniaelmipcaaQ3
import Derived.Test.YtmdhniaelmipcaaQ6
import Derived.Test.YtmdhniaelmipcaaQ7
import Derived.Test.YtmdhniaelmipcaaQ8
import Derived.Test.YtmdhniaelmipcaaQSFnExactRowPieces
import Derived.Test.YtmdhniaelmipcaaQPa
import Derived.Test.YtmdhniaelmipcaaQPi
import Derived.Test.YtmdhniaelmipcaaQPb
namespace Go.Proofs.Ytmdhniaelmipcaa.Q
open Go.RowKit Go.Proofs.YtmdhniaelmipcaaW.PrintWords Go.Proofs.YtmdhniaelmipcaaW.PrintLast Go.Proofs.YtmdhniaelmipcaaW.PrintMore
theorem law_RowPieces : laws_FnExactRowPieces.Pure := by
  intro x y a _ _ _
  refine ⟨100002, ?_⟩
  unfold laws_FnExactRowPieces.f laws_toRoom.f laws_toStock.f
  simp only [Option.bind_some, spec_RowPieces.f, impl_RowPieces.f, l30Ok_f, roomCode_f]
  by_cases hv : (vRoom x.f0 x.f1 && vStock y.f0 y.f1 y.f2 y.f3) = true
  · have hv' := hv
    rw [Bool.and_eq_true] at hv'
    obtain ⟨p, j, L, c, hp, hj, _, hk, _, _⟩ := row_same ⟨x.f0, x.f1⟩ ⟨y.f0, y.f1, y.f2, y.f3⟩ a hv'.1 hv'.2
    obtain ⟨e1, e2⟩ := hk 100002 (by omega)
    obtain ⟨e3, e4⟩ := hk 100001 (by omega)
    simp only [] at e1 e2 e3 e4
    simp only [hv, if_true, e1, e2, Option.bind_some]
    rw [eqInt64S_ev p (by omega) _ (by omega)]
    simp only [Option.bind_some, if_true, laws_FnExactRowPieces.j0, bne_self_eq_false, Bool.false_eq_true, if_false]
    rw [markInt64S_ev p 1 (by omega) (by omega) _ (by omega)]
    simp only [Option.bind_some]
    rw [heldInt64S_ev 1 p.length (by omega) (by omega) _ (by omega)]
    simp only [Option.bind_some, if_true, laws_toRoom.f, laws_toStock.f, impl_RowPieces.f, roomCode_f, hv]
    rw [if_neg (by omega)]
    simp only [e4, Option.bind_some]
    rw [eqInt64S_ev p (by omega) _ (by omega)]
    simp only [Option.bind_some, if_true, bne_self_eq_false, laws_FnExactRowPieces.j1, Bool.false_eq_true, if_false]
    rw [heldInt64S_ev 1 p.length (by omega) (by omega) _ (by omega)]
    simp only [Option.bind_some, if_true]
    rw [if_neg (by omega)]
  · simp only [Bool.not_eq_true] at hv
    simp only [hv, Bool.false_eq_true, if_false, Option.bind_some]
    rw [if_neg (by decide)]
    simp only [Option.bind_some]
    rw [eqInt64S_ev [] (by simp) _ (by simp)]
    simp only [Option.bind_some, if_true, laws_FnExactRowPieces.j0, bne_self_eq_false, Bool.false_eq_true, if_false]
    rw [markInt64S_ev [] 1 (by omega) (by simp) _ (by simp)]
    simp only [Option.bind_some]
    rw [heldInt64S_ev 1 [].length (by omega) (by simp) _ (by simp)]
    simp only [Option.bind_some, if_true, laws_toRoom.f, laws_toStock.f, impl_RowPieces.f, roomCode_f, hv, Bool.false_eq_true, if_false]
    rw [if_neg (by decide), if_neg (by decide)]
    simp only [Option.bind_some]
    rw [eqInt64S_ev [] (by simp) _ (by simp)]
    simp only [Option.bind_some, if_true, bne_self_eq_false, laws_FnExactRowPieces.j1, Bool.false_eq_true, if_false]
    rw [heldInt64S_ev 1 [].length (by omega) (by simp) _ (by simp)]
    simp
end Go.Proofs.Ytmdhniaelmipcaa.Q
