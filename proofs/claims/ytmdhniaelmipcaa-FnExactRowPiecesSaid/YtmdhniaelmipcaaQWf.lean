-- written by wip/gen/pp.sh out of the translation; Lean checks it
import Derived.Test.YtmdhniaelmipcaaQ0
import Derived.Test.YtmdhniaelmipcaaQOpn
import Derived.KernelRfl
namespace Go.Proofs.Ytmdhniaelmipcaa.Q
open Go.RowKit Go.Proofs.YtmdhniaelmipcaaW.PrintWords Go.Proofs.YtmdhniaelmipcaaW.PrintLast Go.Proofs.YtmdhniaelmipcaaW.PrintMore
attribute [local go_sem] max2_int min2_int max_two min_two max_three min_three max_four min_four   -- for this text's walks alone
set_option linter.unusedVariables false
set_option linter.unusedSimpArgs false

open Go.Proofs.Ytmdhniaelmipcaa.OPN
def W23 (x : S23) : Prop := (Lit.int .i64 x.f0).wf = true ∧ (Lit.int .i64 x.f1).wf = true
theorem opn23 : Opn Try.prog 23 k23 W23 := by
  have h := opnF_cons 2 0 (opn_int Try.underlying2 (by kernel_rfl)) (opnF_one 2 1 (opn_int Try.underlying2 (by kernel_rfl))) rfl
  exact opn_struct (fun x : S23 => (x.f0, x.f1)) (fun a => ⟨a.1, a.2⟩) (fun _ => rfl) Try.underlying23 (by kernel_rfl) h rfl
def W29 (x : S29) : Prop := (Lit.int .i64 x.f0).wf = true ∧ (Lit.int .i64 x.f1).wf = true ∧ (Lit.int .i64 x.f2).wf = true ∧ (Lit.int .i64 x.f3).wf = true
theorem opn29 : Opn Try.prog 29 k29 W29 := by
  have h := opnF_cons 2 0 (opn_int Try.underlying2 (by kernel_rfl)) (opnF_cons 2 1 (opn_int Try.underlying2 (by kernel_rfl)) (opnF_cons 2 2 (opn_int Try.underlying2 (by kernel_rfl)) (opnF_one 2 3 (opn_int Try.underlying2 (by kernel_rfl))) rfl) rfl) rfl
  exact opn_struct (fun x : S29 => (x.f0, x.f1, x.f2, x.f3)) (fun a => ⟨a.1, a.2.1, a.2.2.1, a.2.2.2⟩) (fun _ => rfl) Try.underlying29 (by kernel_rfl) h rfl
def W35 (x : S35) : Prop := (Lit.int .i64 x.f0).wf = true ∧ (Lit.int .i64 x.f1).wf = true ∧ (Lit.int .i64 x.f2).wf = true ∧ (Lit.int .i64 x.f3).wf = true ∧ (Lit.int .i64 x.f4).wf = true
theorem opn35 : Opn Try.prog 35 k35 W35 := by
  have h := opnF_cons 2 0 (opn_int Try.underlying2 (by kernel_rfl)) (opnF_cons 2 1 (opn_int Try.underlying2 (by kernel_rfl)) (opnF_cons 2 2 (opn_int Try.underlying2 (by kernel_rfl)) (opnF_cons 2 3 (opn_int Try.underlying2 (by kernel_rfl)) (opnF_one 2 4 (opn_int Try.underlying2 (by kernel_rfl))) rfl) rfl) rfl) rfl
  exact opn_struct (fun x : S35 => (x.f0, x.f1, x.f2, x.f3, x.f4)) (fun a => ⟨a.1, a.2.1, a.2.2.1, a.2.2.2.1, a.2.2.2.2⟩) (fun _ => rfl) Try.underlying35 (by kernel_rfl) h rfl
def W56 (x : S56) : Prop := x.f0.size ≤ maxLen ∧ (Lit.int .i64 x.f1).wf = true ∧ (Lit.int .i64 x.f2).wf = true
theorem opn56 : Opn Try.prog 56 k56 W56 := by
  have h := opnF_cons 9 0 (opn_string Try.underlying9 (by kernel_rfl)) (opnF_cons 2 1 (opn_int Try.underlying2 (by kernel_rfl)) (opnF_one 2 2 (opn_int Try.underlying2 (by kernel_rfl))) rfl) rfl
  exact opn_struct (fun x : S56 => (x.f0, x.f1, x.f2)) (fun a => ⟨a.1, a.2.1, a.2.2⟩) (fun _ => rfl) Try.underlying56 (by kernel_rfl) h rfl
end Go.Proofs.Ytmdhniaelmipcaa.Q
