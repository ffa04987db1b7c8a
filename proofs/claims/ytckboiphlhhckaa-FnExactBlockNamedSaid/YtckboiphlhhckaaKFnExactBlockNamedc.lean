/- One block by its kind and name, by the program as by the reference. This text holds the last walks, the plain law and the row. -/
import Derived.Laws.CopyRow
import Derived.Lib.SliceRun
import Derived.Lib.Overlaps
import Derived.Deep.RegionLaw
import Derived.Laws.Externs
import Derived.Lib.AppendZerosOnto
import Derived.Lib.Walk
import Derived.Test.YtckboiphlhhckaaRows
import Derived.WalkKit
import Derived.ProofKit
import Derived.OpenShut
import Derived.ShutString
import Derived.ChangeOld
import Derived.Below
import Derived.SizedLaws
import Derived.Carry
import Derived.Test.YtckboiphlhhckaaKFnExactBlockNameda
import Derived.Test.YtckboiphlhhckaaKFnExactBlockNamedb
set_option linter.unusedVariables false
set_option linter.unusedSimpArgs false
namespace Go.Proofs.Ytckboiphlhhckaa.Q
open Go.RowKit Go.Proofs.YtckboiphlhhckaaW.PrintWords Go.Proofs.YtckboiphlhhckaaW.PrintLast Go.Proofs.YtckboiphlhhckaaW.PrintMore
theorem ok_loop (m : List Blk) (hl : (m.length : Int) ≤ 1048576) : ∀ (d i k : Nat), i + d = m.length → spec_l29Ok.l0 k m i = some true → m.length ≤ 32 ∧ ∀ (j : Nat), i ≤ j → 0 < j → ∀ (hj : j < m.length), cB (ckB (m[j - 1]'(by omega))) (ckB m[j]) < 0 := by
  intro d
  induction d with
  | zero =>
    intro i k h1 h
    cases k with
    | zero => simp [spec_l29Ok.l0] at h
    | succ k =>
      simp only [spec_l29Ok.l0] at h
      rw [if_neg (by omega)] at h
      have h := Option.some.inj h
      exact ⟨by have := of_decide_eq_true h; omega, fun j h2 _ hj => by omega⟩
  | succ d ih =>
    intro i k h1 h
    cases k with
    | zero => simp [spec_l29Ok.l0] at h
    | succ k =>
      simp only [spec_l29Ok.l0] at h
      rw [if_pos (by omega), if_pos (by omega)] at h
      obtain ⟨t, _, h⟩ := Option.bind_eq_some_iff.1 h
      cases t with
      | false => simp at h
      | true =>
        rw [if_pos rfl] at h
        by_cases hi : i = 0
        · subst hi
          rw [if_neg (by omega), wr64s 0 (by omega)] at h
          obtain ⟨a1, a2⟩ := ih 1 k (by omega) h
          exact ⟨a1, fun j h2 h3 hj => a2 j (by omega) h3 hj⟩
        · have e : wrap64 ((i : Int) - 1) = ((i - 1 : Nat) : Int) := by rw [wr64 (by omega) (by omega)]; omega
          rw [if_pos (by omega), e, if_pos (by omega), if_pos (by omega), rdi_Block m (i - 1) (by omega), rdi_Block m i (by omega), bfr_ev] at h
          simp only [Option.bind_some] at h
          by_cases hc : cB (ckB (m[i - 1]'(by omega))) (ckB (m[i]'(by omega))) < 0
          · rw [if_pos (by simpa using hc), wr64s i (by omega)] at h
            obtain ⟨a1, a2⟩ := ih (i + 1) k (by omega) h
            refine ⟨a1, fun j h2 h3 hj => ?_⟩
            rcases Nat.lt_or_eq_of_le h2 with g | g
            · exact a2 j (by omega) h3 hj
            · subst g; exact hc
          · rw [if_neg (by simpa using hc)] at h
            simp at h
theorem ok_ev (m : List Blk) (hl : (m.length : Int) ≤ 1048576) (hw : ∀ y ∈ m, (y.f2.size : Int) ≤ 1048576) : ∃ b, Ev (fun k => spec_l29Ok.f k m) b ∧ Ev (fun k => impl_ValidBlocks.f k m) b ∧ (b = true → m.length ≤ 32 ∧ ∀ t, Rsg (fun x => cB (ckB x) t) m) := by
  obtain ⟨b, hb⟩ := validBS_ev m hl hw
  refine ⟨b, ⟨4000001, fun k hk => (hb k (by omega)).1⟩, ⟨4000001, fun k hk => (hb k (by omega)).2⟩, fun h => ?_⟩
  subst h
  have h1 := (hb 4000001 (by omega)).1
  simp only [spec_l29Ok.f] at h1
  obtain ⟨a1, a2⟩ := ok_loop m hl m.length 0 4000001 (by omega) h1
  refine ⟨a1, fun t => rsg_of cB_ord ckB (fun i hi => ?_) t⟩
  exact a2 (i + 1) (by omega) (by omega) hi
theorem named_ev (m : List Blk) (hl : (m.length : Int) ≤ 1048576) (hw : ∀ y ∈ m, (y.f2.size : Int) ≤ 1048576) (u v : ByteArray) : ∃ r, Ev (fun k => spec_BlockNamed.f k m u v) r ∧ Ev (fun k => impl_BlockNamed.f k m u v) r := by
  obtain ⟨b, e1, e2, hb⟩ := ok_ev m hl hw
  cases b with
  | false =>
    refine ⟨((⟨#[]⟩ : ByteArray), 1), ?_, ?_⟩
    · simp only [spec_BlockNamed.f]; exact Ev_b e1 (Ev_f (by decide) (Ev_n rfl))
    · simp only [impl_BlockNamed.f]; exact Ev_b e2 (Ev_f (by decide) (Ev_n rfl))
  | true =>
    obtain ⟨_, hr⟩ := hb rfl
    have f1 := find_ev m hl u v (hr _)
    have f2 := bs_ev m hl u v (⟨#[]⟩ : ByteArray) (hr _)
    cases hf : fnd (fun x => cB (ckB x) (u.data.toList, v.data.toList)) m with
    | false =>
      rw [hf, if_neg (by decide)] at f1
      rw [hf] at f2
      refine ⟨((⟨#[]⟩ : ByteArray), 3), ?_, ?_⟩
      · simp only [spec_BlockNamed.f]; exact Ev_b e1 (Ev_t rfl (Ev_b f1 (Ev_t (by decide) (Ev_n rfl))))
      · simp only [impl_BlockNamed.f]; exact Ev_b e2 (Ev_t rfl (Ev_b f2 (Ev_f (by simp) (Ev_n rfl))))
    | true =>
      obtain ⟨hp, _⟩ := fnd_t hf
      rw [hf, if_pos rfl] at f1
      rw [hf] at f2
      refine ⟨((m[plc (fun x => cB (ckB x) (u.data.toList, v.data.toList)) m]'hp).f2, 0), ?_, ?_⟩
      · simp only [spec_BlockNamed.f]
        exact Ev_b e1 (Ev_t rfl (Ev_b f1 (Ev_f (by omega) (Ev_t (by omega) (Ev_t (by omega) (Ev_n (by rw [rdi_Block m _ hp])))))))
      · simp only [impl_BlockNamed.f]
        exact Ev_b e2 (Ev_t rfl (Ev_b f2 (Ev_t rfl (Ev_t (by show (0 : Int) ≤ _; omega) (Ev_t (by show _ < (m.length : Int); omega) (Ev_n (by simp only; rw [rdi_Block m _ hp])))))))
end Go.Proofs.Ytckboiphlhhckaa.Q
namespace Go.Proofs.Ytckboiphlhhckaa.Q
open Go.RowKit Go.Proofs.YtckboiphlhhckaaW.PrintWords Go.Proofs.YtckboiphlhhckaaW.PrintLast Go.Proofs.YtckboiphlhhckaaW.PrintMore
set_option linter.unusedVariables false
theorem law_BlockNamed : laws_FnExactBlockNamed.Pure := by
  intro x u v hx hu hv
  have hM : maxLen = 9223372036854775807 := by decide
  refine Ev.rounds (r := true) ?_
  simp only [laws_FnExactBlockNamed.f]
  by_cases lu : (u.size : Int) > 1048576
  · exact Ev_t lu (Ev_n rfl)
  refine Ev_f lu ?_
  by_cases lv : (v.size : Int) > 1048576
  · exact Ev_t lv (Ev_n rfl)
  refine Ev_f lv ?_
  refine Ev_b (szS_Block x hx.1 hx.2 (1048576) (by omega) (by omega)) ?_
  by_cases cx : ((ZS_Block x : Nat) : Int) ≤ 1048576
  case neg => rw [cut_neg cx]; exact Ev_t (by decide) (Ev_n rfl)
  rw [cut_pos cx]
  refine Ev_f (by omega) ?_
  have nx : (x.length : Int) ≤ 1048576 := by have := (ZS_in_Block x).1; omega
  have bx : ∀ y ∈ x, B_Block y := fun y hy => B_of_Block y (by have := (ZS_in_Block x).2 y hy; omega)
  have mx : ((x.map conv_Block).length : Int) ≤ 1048576 := by simpa using nx
  have Ex : ∀ y ∈ x.map conv_Block, E_Block y := fun y hy => by obtain ⟨u, hu, rfl⟩ := List.mem_map.1 hy; exact E_of_Block u (bx u hu)
  have tx := toS_Block x nx bx
  have qx := eqS_Block (x.map conv_Block) mx Ex
  have zx : ∀ y ∈ x.map conv_Block, ∃ u ∈ x, conv_Block u = y ∧ ((Z_Block u : Nat) : Int) ≤ 1048576 := fun y hy => by obtain ⟨u, hu, e⟩ := List.mem_map.1 hy; exact ⟨u, hu, e, by have := (ZS_in_Block x).2 u hu; omega⟩
  obtain ⟨⟨r0, r1⟩, e1, e2⟩ := named_ev (x.map conv_Block) mx (fun y hy => by obtain ⟨u_, _, rfl, h_⟩ := zx y hy; unfold Z_Block at h_; show ((u_.f2.size : Nat) : Int) ≤ 1048576; omega) u v
  repeat' (first | ((first | (with_reducible refine Ev_b e1 ?_) | (with_reducible refine Ev_b e2 ?_) | (with_reducible refine Ev_b tx ?_) | (with_reducible refine Ev_b qx ?_)); try dsimp only) | (with_reducible refine Ev_t rfl ?_) | (refine Ev_f (by simp; done) ?_) | (with_reducible refine Ev_t True.intro ?_) | (refine Ev_f (by omega) ?_) | (refine Ev_t (by omega) ?_) | exact Ev_n rfl | (refine Ev_suc ?_; first | simp only [laws_FnExactBlockNamed.j0] | simp only [laws_FnExactBlockNamed.j1] | simp only [laws_FnExactBlockNamed.j2]))
end Go.Proofs.Ytckboiphlhhckaa.Q
namespace Go.Proofs.Ytckboiphlhhckaa.Pure
open Go.Proofs.Ytckboiphlhhckaa.Q
theorem FnExactBlockNamed : laws_FnExactBlockNamed.Pure := law_BlockNamed
end Go.Proofs.Ytckboiphlhhckaa.Pure
namespace Go.Proofs.Ytckboiphlhhckaa.fnExactBlockNamed
open Go.ChangeShapes Go.WideShapes Go.ChangeAt Go.RowKit Go.Proofs.Ytckboiphlhhckaa.OPN Go.Proofs.Ytckboiphlhhckaa.Q Go.Proofs.YtckboiphlhhckaaW.PrintWords
open Go.ChangeMaps (open_string shut_string)
set_option linter.unusedVariables false
theorem own : ownKnob Try.prog.godebug = none := by kernel_rfl
theorem laidOut : laidOutB Try.prog = true := by kernel_rfl
set_option maxRecDepth 100000 in
theorem lifted (os : Os) (started : os.Started) (H : Type) (enc : TypeId × Value → H) :
    ReturnsInHanded {} Try.checked os 6 .any (Rows.fnExactBlockNamedSpec.pre6 enc Try.prog Try.f6 Rows.fnExactBlockNamedRow.domain false) (Rows.fnExactBlockNamedSpec.post enc Try.prog Try.f6 false true false false) := by
  refine returnsInHanded_of_change_sized (C := Try.checked) own started (by kernel_rfl) Try.func6
    (ChangeSpec.witness6 (enc := enc) (C := Try.checked) false ⟨#[], #[.slice none 0 0, .string ByteArray.empty, .string ByteArray.empty], []⟩ 8 (by kernel_rfl) (by kernel_rfl) (by kernel_rfl) (by kernel_rfl)) ?_
  intro W base args ds gs before hval0 hW hcnd hsz0 _
  have hval : ∀ (j : Nat) t v, Try.f6.params[j]? = some t → args[j]? = some v → Value.okWide Try.prog W .any base t v := hval0
  have hW' := hW
  obtain ⟨p, q, hA0, hV, rfl, hfz, hnd⟩ := hW
  have hA : DataW.TrodAll enc Try.prog W 0 (fun _ => true) true Try.f6.params.toList args.toList ds p := hA0
  rw [Try.params6] at hA hval
  obtain ⟨v0, vs0, d0, ds0, p0, q0, hargs, rfl, rfl, h0, r0⟩ := trodAll_cons hA
  obtain ⟨v1, vs1, d1, ds1, p1, q1, rfl, rfl, rfl, h1, r1⟩ := trodAll_cons r0
  obtain ⟨v2, vs2, d2, ds2, p2, q2, rfl, rfl, rfl, h2, r2⟩ := trodAll_cons r1
  obtain ⟨rfl, rfl, rfl⟩ := trodAll_nil r2
  obtain rfl : args = #[v0, v1, v2] := by cases args; simp_all
  obtain ⟨rfl, rfl⟩ := trodVars_none hV
  have lt0 : ∀ x ∈ p0, x.block < W.heap.size := by obtain ⟨m, hm⟩ := h0; exact DataW.trod_lt m _ _ _ hm
  have k0 := h0
  obtain ⟨z0, y0, u0, rfl⟩ := okWide_slice Try.underlying22 (hval 0 22 v0 rfl rfl)
  obtain ⟨fu0, hf0⟩ := h0
  obtain ⟨x0, ⟨A0, c0, hcs0, hc0, hr0⟩, w0⟩ := ((opn_slice Try.underlying22 (by kernel_rfl) opn29) : Opn _ _ (Kd.slice 29 k29) _).get rfl hf0
  obtain ⟨rfl, rfl, rfl⟩ : A0 = z0 ∧ x0.length = y0 ∧ c0 = u0 := (fun (h_ : z0 = A0 ∧ y0 = x0.length ∧ u0 = c0) => ⟨h_.1.symm, h_.2.1.symm, h_.2.2.symm⟩) (by simpa [Value.cells] using hcs0)
  obtain ⟨x1, rfl, rfl, rfl, w1⟩ := open_string Try.underlying9 (hval 1 9 v1 rfl rfl) h1
  obtain ⟨x2, rfl, rfl, rfl, w2⟩ := open_string Try.underlying9 (hval 2 9 v2 rfl rfl) h2
  clear hA0 hval0 hsz0
  obtain ⟨k, hP⟩ := Pure.FnExactBlockNamed x0 x1 x2 w0 w1 w2
  refine (laws_FnExactBlockNamed.calls k A0 c0 x0 x1 x2 true W hr0 hc0 hP).mono fun e W' hh => ?_
  obtain ⟨rfl, bel0⟩ := hh
  have bel : Below W.heap.size W W' := bel0
  exact ⟨_, rfl, _, _, _, [], _, [], hW', trodAll_mk1 (shut_bool Try.underlying4 _), (trodAll_cons_mk (Below.trod laidOut (by kernel_rfl) (of_decide_eq_true (by kernel_rfl)) k0 bel lt0) (trodAll_cons_mk (shut_string Try.underlying9 w1) (trodAll_cons_mk (shut_string Try.underlying9 w2) trodAll_mk0))), rfl, bel.frame _, fun h => by cases h⟩
theorem over : Rows.fnExactBlockNamedRow.holds Try.pinned (OpenSpec.ofChange Rows.fnExactBlockNamedSpec) :=
  OpenClaim.holds_of_wide 6 Try.f6 rfl rfl rfl rfl rfl rfl rfl ⟨rfl, rfl, rfl, rfl, rfl⟩ rfl rfl rfl rfl rfl (by kernel_rfl) Try.func6 (by kernel_rfl)
    (of_decide_eq_true (by kernel_rfl)) (by unfold Func.isWrapper; first | (rw [if_pos (by decide +kernel)]; kernel_rfl) | (rw [if_neg (by decide +kernel)]; exact ⟨rfl, rfl⟩))
    (fun os started H enc _ => lifted os started H enc)
theorem proved : Rows.FnExactBlockNamedSaid := over
#print axioms proved
end Go.Proofs.Ytckboiphlhhckaa.fnExactBlockNamed
namespace Go.Proofs.Ytckboiphlhhckaa
theorem fnExactBlockNamed_holds : Rows.FnExactBlockNamedSaid := fnExactBlockNamed.proved
end Go.Proofs.Ytckboiphlhhckaa
