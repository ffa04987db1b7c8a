/- For every number of pieces, the program's DiscountFor returns what the reference's returns; no condition. -/
import Derived.Test.YtmdhniaelmipcaaPFnExactDiscountForx1
namespace Go.Proofs.Ytmdhniaelmipcaa.Pure
open Go.RowKit Go.Proofs.Ytmdhniaelmipcaa.PFnExactDiscountFor Go.Proofs.YtmdhniaelmipcaaW.PrintWords Go.Proofs.YtmdhniaelmipcaaW.PrintLast

theorem FnExactDiscountFor : laws_FnExactDiscountFor.Pure := by
  intro a0 _
  unfold laws_FnExactDiscountFor.f spec_DiscountFor.f impl_DiscountFor.f spec_l28Discount.f spec_l00In.f impl_within.f
  by_cases h1 : a0 ≥ 1
  · by_cases h2 : a0 ≤ 1000
    · by_cases h3 : a0 < 5 <;> by_cases h4 : a0 < 10 <;> by_cases h5 : a0 < 25 <;> simp [h1, h2, h3, h4, h5]
    · simp [h1, h2]
  · simp [h1]

end Go.Proofs.Ytmdhniaelmipcaa.Pure
