/- Own lemmas on rooms, stocks and rates: what the reference's and the program's functions answer, as plain values. -/
import Derived.Test.YtmdhniaelmipcaaQ0
import Derived.Test.YtmdhniaelmipcaaQ1
import Derived.Test.YtmdhniaelmipcaaQ2
import Derived.Test.YtmdhniaelmipcaaQ3
import Derived.Test.YtmdhniaelmipcaaQ4
import Derived.Test.YtmdhniaelmipcaaQ5
import Derived.Test.YtmdhniaelmipcaaQSFnExactRowCount
import Derived.Test.YtmdhniaelmipcaaQSFnExactValidRates
import Derived.Test.YtmdhniaelmipcaaQSFnExactValidRoom
import Derived.Test.YtmdhniaelmipcaaQSFnExactValidStock
namespace Go.Proofs.Ytmdhniaelmipcaa.Q
open Go.RowKit Go.Proofs.YtmdhniaelmipcaaW.PrintWords Go.Proofs.YtmdhniaelmipcaaW.PrintLast Go.Proofs.YtmdhniaelmipcaaW.PrintMore
theorem ite_and (b c : Bool) : (if b = true then some c else some false) = some (b && c) := by cases b <;> rfl
theorem in_f (a b c : Int) : spec_l00In.f a b c = some (decide (b ≤ a) && decide (a ≤ c)) := by unfold spec_l00In.f; by_cases h : a ≥ b <;> simp [h]
theorem within_f (a b c : Int) : impl_within.f a b c = some (decide (b ≤ a) && decide (a ≤ c)) := by unfold impl_within.f; by_cases h : a ≥ b <;> simp [h]
def vRoom (w l : Int) : Bool := (decide (1 ≤ w) && decide (w ≤ 20000)) && (decide (1 ≤ l) && decide (l ≤ 20000))
def vStock (b w l s : Int) : Bool := (decide (10 ≤ b) && decide (b ≤ 5000)) && ((decide (10 ≤ w) && decide (w ≤ 1000)) && ((decide (1 ≤ l) && decide (l ≤ b)) && (decide (0 ≤ s) && decide (s ≤ wrap64 (Int.tdiv b 2)))))
def vRates (h e f w m : Int) : Bool := (decide (0 ≤ h) && decide (h ≤ 100000)) && ((decide (0 ≤ e) && decide (e ≤ 1000)) && ((decide (0 ≤ f) && decide (f ≤ 1000)) && ((decide (0 ≤ w) && decide (w ≤ 300)) && (decide (0 ≤ m) && decide (m ≤ 200)))))
theorem l30Room_f (x : S25) : spec_l30Room.f [x] = some (vRoom x.f0 x.f1) := by
  unfold spec_l30Room.f vRoom; simp [in_f, rd_T25, ite_and]
theorem ValidRoom_f (w l : Int) : spec_ValidRoom.f w l = some (vRoom w l) := by unfold spec_ValidRoom.f; simp [l30Room_f]
theorem iValidRoom_f (w l : Int) : impl_ValidRoom.f w l = some (vRoom w l) := by unfold impl_ValidRoom.f vRoom; simp [within_f, ite_and]
theorem l30Stock_f (x : S31) : spec_l30Stock.f [x] = some (vStock x.f0 x.f1 x.f2 x.f3) := by
  unfold spec_l30Stock.f vStock; simp [in_f, rd_T31, ite_and]
theorem ValidStock_f (b w l s : Int) : spec_ValidStock.f b w l s = some (vStock b w l s) := by unfold spec_ValidStock.f; simp [l30Stock_f]
theorem iValidStock_f (b w l s : Int) : impl_ValidStock.f b w l s = some (vStock b w l s) := by unfold impl_ValidStock.f vStock; simp [within_f, ite_and]
theorem l28Ok_f (x : S37) : spec_l28Ok.f [x] = some (vRates x.f0 x.f1 x.f2 x.f3 x.f4) := by
  unfold spec_l28Ok.f vRates; simp [in_f, rd_T37, ite_and]
theorem ValidRates_f (h e f w m : Int) : spec_ValidRates.f h e f w m = some (vRates h e f w m) := by unfold spec_ValidRates.f; simp [l28Ok_f]
theorem iValidRates_f (h e f w m : Int) : impl_ValidRates.f h e f w m = some (vRates h e f w m) := by unfold impl_ValidRates.f vRates; simp [within_f, ite_and]
theorem law_ValidRoom : laws_FnExactValidRoom.Pure := by
  intro x _; unfold laws_FnExactValidRoom.f laws_toRoom.f; simp [ValidRoom_f, iValidRoom_f]
theorem law_ValidStock : laws_FnExactValidStock.Pure := by
  intro x _; unfold laws_FnExactValidStock.f laws_toStock.f; simp [ValidStock_f, iValidStock_f]
theorem law_ValidRates : laws_FnExactValidRates.Pure := by
  intro x _; unfold laws_FnExactValidRates.f laws_toRates.f; simp [ValidRates_f, iValidRates_f]
theorem l30Ok_f (x : S25) (y : S31) : spec_l30Ok.f [x] [y] = some (vRoom x.f0 x.f1 && vStock y.f0 y.f1 y.f2 y.f3) := by
  unfold spec_l30Ok.f; simp [l30Room_f, l30Stock_f, ite_and]
theorem roomCode_f (w l a b c d : Int) : impl_roomCode.f w l a b c d = some (if vRoom w l && vStock a b c d then 0 else 1) := by
  unfold impl_roomCode.f; simp only [iValidRoom_f, iValidStock_f, Option.bind_some]
  cases vRoom w l <;> cases vStock a b c d <;> rfl
theorem up_same (a b : Int) : spec_l28Up.f a b = impl_upDiv.f a b := rfl
theorem vStock_wide {a b c d : Int} (h : vStock a b c d = true) : 10 ≤ a ∧ a ≤ 5000 ∧ 10 ≤ b ∧ b ≤ 1000 ∧ 1 ≤ c ∧ c ≤ a ∧ 0 ≤ d := by
  unfold vStock at h; simp only [Bool.and_eq_true, decide_eq_true_eq] at h; omega
theorem vRoom_wide {w l : Int} (h : vRoom w l = true) : 1 ≤ w ∧ w ≤ 20000 ∧ 1 ≤ l ∧ l ≤ 20000 := by
  unfold vRoom at h; simp only [Bool.and_eq_true, decide_eq_true_eq] at h; omega
theorem law_RowCount : laws_FnExactRowCount.Pure := by
  intro x y _ _; unfold laws_FnExactRowCount.f laws_toRoom.f laws_toStock.f
  simp only [Option.bind_some, spec_RowCount.f, impl_RowCount.f, l30Ok_f, roomCode_f]
  by_cases hv : (vRoom x.f0 x.f1 && vStock y.f0 y.f1 y.f2 y.f3) = true
  · simp only [hv, if_true]
    have hs : vStock y.f0 y.f1 y.f2 y.f3 = true := by simp at hv; exact hv.2
    have hw := vStock_wide hs
    unfold spec_l30Rows.f impl_rows.f spec_l28Up.f impl_upDiv.f
    have h0 : ¬ y.f1 = 0 := by omega
    simp [rd_T25, rd_T31, h0]
    split <;> simp
  · simp only [Bool.not_eq_true] at hv
    simp [hv]
end Go.Proofs.Ytmdhniaelmipcaa.Q
