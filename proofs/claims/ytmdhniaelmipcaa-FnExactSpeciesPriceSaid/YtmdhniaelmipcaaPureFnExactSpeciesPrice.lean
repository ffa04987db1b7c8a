/- For every text, the program's SpeciesPrice returns what the reference's returns; no condition. -/
import Derived.Test.YtmdhniaelmipcaaPFnExactSpeciesPricex1
namespace Go.Proofs.Ytmdhniaelmipcaa.Pure
open Go.RowKit Go.Proofs.Ytmdhniaelmipcaa.PFnExactSpeciesPrice Go.Proofs.YtmdhniaelmipcaaW.PrintWords Go.Proofs.YtmdhniaelmipcaaW.PrintLast

theorem FnExactSpeciesPrice : laws_FnExactSpeciesPrice.Pure := by
  intro a0 hs
  refine ⟨12, ?_⟩
  unfold laws_FnExactSpeciesPrice.f
  by_cases hl : (a0.size : Int) > 1048576
  · rw [if_pos hl]
  · rw [if_neg hl]
    unfold spec_SpeciesPrice.f impl_SpeciesPrice.f spec_l28Prices.f spec_l07Find.f spec_l07Names.f
    simp only [Option.bind_some, spec_l07Find.l0, wrap64, rdOf]
    simp (decide := true)
    generalize a0.toList = l
    simp only [eq_comm (b := l)]
    by_cases h0 : l = [97, 115, 104]
    · subst h0; decide
    simp only [h0, if_false]
    by_cases h1 : l = [98, 101, 101, 99, 104]
    · subst h1; decide
    simp only [h1, if_false]
    by_cases h2 : l = [98, 105, 114, 99, 104]
    · subst h2; decide
    simp only [h2, if_false]
    by_cases h3 : l = [99, 104, 101, 114, 114, 121]
    · subst h3; decide
    simp only [h3, if_false]
    by_cases h4 : l = [101, 98, 111, 110, 121]
    · subst h4; decide
    simp only [h4, if_false]
    by_cases h5 : l = [104, 111, 108, 108, 121]
    · subst h5; decide
    simp only [h5, if_false]
    by_cases h6 : l = [109, 97, 112, 108, 101]
    · subst h6; decide
    simp only [h6, if_false]
    by_cases h7 : l = [111, 97, 107]
    · subst h7; decide
    simp only [h7, if_false]
    by_cases h8 : l = [114, 111, 115, 101, 119, 111, 111, 100]
    · subst h8; decide
    simp only [h8, if_false]
    by_cases h9 : l = [119, 97, 108, 110, 117, 116]
    · subst h9; decide
    simp only [h9, if_false]
    decide

end Go.Proofs.Ytmdhniaelmipcaa.Pure
