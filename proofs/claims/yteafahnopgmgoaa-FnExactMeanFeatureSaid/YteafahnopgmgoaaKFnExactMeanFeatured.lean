/- For every list of features and every name, the law FnExactMeanFeature returns true: the program gives the same mean feature as the reference, in memory of its own. This text holds the last walks, the plain law and the row. -/
import Derived.Test.YteafahnopgmgoaaRows
import Derived.WalkKit
import Derived.ProofKit
import Derived.OpenShut
import Derived.ShutString
import Derived.ChangeOld
import Derived.Below
import Derived.SizedLaws
import Derived.Carry
import Derived.Test.YteafahnopgmgoaaKFnExactMeanFeaturea
import Derived.Test.YteafahnopgmgoaaKFnExactMeanFeaturec
set_option linter.unusedVariables false
set_option linter.unusedSimpArgs false
namespace Go.Proofs.Yteafahnopgmgoaa.Q
open Go.RowKit Go.Proofs.YteafahnopgmgoaaW.PrintWords Go.Proofs.YteafahnopgmgoaaW.PrintLast Go.Proofs.YteafahnopgmgoaaW.PrintMore
set_option linter.unusedVariables false
theorem law_MeanFeature : laws_FnExactMeanFeature.Pure := by
  intro x u hx hu
  have hM : maxLen = 9223372036854775807 := by decide
  refine Ev.rounds (r := true) ?_
  simp only [laws_FnExactMeanFeature.f]
  by_cases lu : (u.size : Int) > 1048576
  · exact Ev_t lu (Ev_n rfl)
  refine Ev_f lu ?_
  refine Ev_b (szS_Feature x hx.1 hx.2 (1048576) (by omega) (by omega)) ?_
  by_cases cx : ((ZS_Feature x : Nat) : Int) ≤ 1048576
  case neg => rw [cut_neg cx]; exact Ev_t (by decide) (Ev_n rfl)
  rw [cut_pos cx]
  refine Ev_f (by omega) ?_
  have nx : (x.length : Int) ≤ 1048576 := by have := (ZS_in_Feature x).1; omega
  have bx : ∀ q_ ∈ x, B_Feature q_ := fun q_ hq_ => B_of_Feature q_ (by have := (ZS_in_Feature x).2 q_ hq_; omega)
  have mx : ((x.map conv_Feature).length : Int) ≤ 1048576 := by simpa using nx
  have Ex : ∀ q_ ∈ x.map conv_Feature, E_Feature q_ := fun y hy => by obtain ⟨u, hu, rfl⟩ := List.mem_map.1 hy; exact E_of_Feature u (bx u hu)
  have tx := toS_Feature x nx bx
  have qx := eqS_Feature (x.map conv_Feature) mx Ex
  have zx : ∀ q_ ∈ x.map conv_Feature, ∃ u ∈ x, conv_Feature u = q_ ∧ ((Z_Feature u : Nat) : Int) ≤ 1048576 := fun y hy => by obtain ⟨u, hu, e⟩ := List.mem_map.1 hy; exact ⟨u, hu, e, by have := (ZS_in_Feature x).2 u hu; omega⟩
  obtain ⟨r0, r1, r2, E1, e1, e2⟩ := mean_ev (x.map conv_Feature) mx u
  have qr1 := eqInt64S_ev' r1 (by omega)
  obtain ⟨Rx, px, hRx, gRx, mmx⟩ := mkf_ev (x.map conv_Feature) mx (fun y hy => by obtain ⟨u_, _, rfl, h_⟩ := zx y hy; unfold Z_Feature at h_; show ((u_.f1.length : Nat) : Int) ≤ 1048576; omega)
  obtain ⟨pr1, _, mr1, hr1⟩ := mk_Int64 r1 1 (by omega) (by omega) (by omega)
  have qF := eqF_of r0 qr1
  have mF := mkF_of r0 mr1
  have hF := hdF_of r0 hr1 (by omega)
  repeat' (first | ((first | (with_reducible refine Ev_b e1 ?_) | (with_reducible refine Ev_b e2 ?_) | (with_reducible refine Ev_b tx ?_) | (with_reducible refine Ev_b qx ?_) | (with_reducible refine Ev_b qr1 ?_) | (with_reducible refine Ev_b mmx ?_) | (with_reducible refine Ev_b mr1 ?_) | (with_reducible refine Ev_b hr1 ?_) | (with_reducible refine Ev_b qF ?_) | (with_reducible refine Ev_b mF ?_) | (with_reducible refine Ev_b hF ?_)); try dsimp only) | (with_reducible refine Ev_t rfl ?_) | (with_reducible refine Ev_t True.intro ?_) | (refine Ev_f (by omega) ?_) | (refine Ev_t (by omega) ?_) | (refine Ev_f (by simp) ?_) | exact Ev_n rfl | (refine Ev_suc ?_; first | simp only [laws_FnExactMeanFeature.j0] | simp only [laws_FnExactMeanFeature.j1] | simp only [laws_FnExactMeanFeature.j2]))
end Go.Proofs.Yteafahnopgmgoaa.Q
namespace Go.Proofs.Yteafahnopgmgoaa.Pure
open Go.Proofs.Yteafahnopgmgoaa.Q
theorem FnExactMeanFeature : laws_FnExactMeanFeature.Pure := law_MeanFeature
end Go.Proofs.Yteafahnopgmgoaa.Pure
namespace Go.Proofs.Yteafahnopgmgoaa.fnExactMeanFeature
open Go.ChangeShapes Go.WideShapes Go.ChangeAt Go.RowKit Go.Proofs.Yteafahnopgmgoaa.OPN Go.Proofs.Yteafahnopgmgoaa.Q Go.Proofs.YteafahnopgmgoaaW.PrintWords
open Go.ChangeMaps (open_string shut_string)
set_option linter.unusedVariables false
theorem own : ownKnob Try.prog.godebug = none := by kernel_rfl
theorem laidOut : laidOutB Try.prog = true := by kernel_rfl
set_option maxRecDepth 100000 in
theorem lifted (os : Os) (started : os.Started) (H : Type) (enc : TypeId × Value → H) :
    ReturnsInHanded {} Try.checked os 7 .any (Rows.fnExactMeanFeatureSpec.pre6 enc Try.prog Try.f7 Rows.fnExactMeanFeatureRow.domain false) (Rows.fnExactMeanFeatureSpec.post enc Try.prog Try.f7 false true false false) := by
  refine returnsInHanded_of_change_sized (C := Try.checked) own started (by kernel_rfl) Try.func7
    (ChangeSpec.witness6 (enc := enc) (C := Try.checked) false ⟨#[], #[.slice none 0 0, .string ByteArray.empty], []⟩ 8 (by kernel_rfl) (by kernel_rfl) (by kernel_rfl) (by kernel_rfl)) ?_
  intro W base args ds gs before hval0 hW hcnd hsz0 _
  have hval : ∀ (j : Nat) t v, Try.f7.params[j]? = some t → args[j]? = some v → Value.okWide Try.prog W .any base t v := hval0
  have hW' := hW
  obtain ⟨p, q, hA0, hV, rfl, hfz, hnd⟩ := hW
  have hA : DataW.TrodAll enc Try.prog W 0 (fun _ => true) true Try.f7.params.toList args.toList ds p := hA0
  rw [Try.params7] at hA hval
  obtain ⟨v0, vs0, d0, ds0, p0, q0, hargs, rfl, rfl, h0, r0⟩ := trodAll_cons hA
  obtain ⟨v1, vs1, d1, ds1, p1, q1, rfl, rfl, rfl, h1, r1⟩ := trodAll_cons r0
  obtain ⟨rfl, rfl, rfl⟩ := trodAll_nil r1
  obtain rfl : args = #[v0, v1] := by cases args; simp_all
  obtain ⟨rfl, rfl⟩ := trodVars_none hV
  have lt0 : ∀ x ∈ p0, x.block < W.heap.size := by obtain ⟨m, hm⟩ := h0; exact DataW.trod_lt m _ _ _ hm
  have k0 := h0
  obtain ⟨z0, y0, u0, rfl⟩ := okWide_slice Try.underlying32 (hval 0 32 v0 rfl rfl)
  obtain ⟨fu0, hf0⟩ := h0
  obtain ⟨x0, ⟨A0, c0, hcs0, hc0, hr0⟩, w0⟩ := ((opn_slice Try.underlying32 (by kernel_rfl) opn24) : Opn _ _ (Kd.slice 24 k24) _).get rfl hf0
  obtain ⟨rfl, rfl, rfl⟩ : A0 = z0 ∧ x0.length = y0 ∧ c0 = u0 := (fun (h_ : z0 = A0 ∧ y0 = x0.length ∧ u0 = c0) => ⟨h_.1.symm, h_.2.1.symm, h_.2.2.symm⟩) (by simpa [Value.cells] using hcs0)
  obtain ⟨x1, rfl, rfl, rfl, w1⟩ := open_string Try.underlying9 (hval 1 9 v1 rfl rfl) h1
  clear hA0 hval0 hsz0
  obtain ⟨k, hP⟩ := Pure.FnExactMeanFeature x0 x1 w0 w1
  refine (laws_FnExactMeanFeature.calls k A0 c0 x0 x1 true W hr0 hc0 hP).mono fun e W' hh => ?_
  obtain ⟨rfl, bel0⟩ := hh
  have bel : Below W.heap.size W W' := bel0
  exact ⟨_, rfl, _, _, _, [], _, [], hW', trodAll_mk1 (shut_bool Try.underlying4 _), (trodAll_cons_mk (Below.trod laidOut (by kernel_rfl) (of_decide_eq_true (by kernel_rfl)) k0 bel lt0) (trodAll_cons_mk (shut_string Try.underlying9 w1) trodAll_mk0)), rfl, bel.frame _, fun h => by cases h⟩
theorem over : Rows.fnExactMeanFeatureRow.holds Try.pinned (OpenSpec.ofChange Rows.fnExactMeanFeatureSpec) :=
  OpenClaim.holds_of_wide 7 Try.f7 rfl rfl rfl rfl rfl rfl rfl ⟨rfl, rfl, rfl, rfl, rfl⟩ rfl rfl rfl rfl rfl (by kernel_rfl) Try.func7 (by kernel_rfl)
    (of_decide_eq_true (by kernel_rfl)) (by unfold Func.isWrapper; first | (rw [if_pos (by decide +kernel)]; kernel_rfl) | (rw [if_neg (by decide +kernel)]; exact ⟨rfl, rfl⟩))
    (fun os started H enc _ => lifted os started H enc)
theorem proved : Rows.FnExactMeanFeatureSaid := over
#print axioms proved
end Go.Proofs.Yteafahnopgmgoaa.fnExactMeanFeature
namespace Go.Proofs.Yteafahnopgmgoaa
theorem fnExactMeanFeature_holds : Rows.FnExactMeanFeatureSaid := fnExactMeanFeature.proved
end Go.Proofs.Yteafahnopgmgoaa
