/- The ancestors of a version, by the program as by the reference. This text holds the last walks, the plain law and the row. -/
import Derived.Lib.Bytealg
import Derived.Test.YthnigkbbmhnafaaRows
import Derived.WalkKit
import Derived.ProofKit
import Derived.OpenShut
import Derived.ShutString
import Derived.ChangeOld
import Derived.Below
import Derived.SizedLaws
import Derived.Carry
import Derived.Test.YthnigkbbmhnafaaKFnExactAncestorsOfa
import Derived.Test.YthnigkbbmhnafaaKFnExactAncestorsOfb
import Derived.Test.YthnigkbbmhnafaaKFnExactAncestorsOfd
import Derived.Test.YthnigkbbmhnafaaKFnExactAncestorsOfc
set_option linter.unusedVariables false
set_option linter.unusedSimpArgs false
namespace Go.Proofs.Ythnigkbbmhnafaa.Q
open Go.RowKit Go.Proofs.YthnigkbbmhnafaaW.PrintWords Go.Proofs.YthnigkbbmhnafaaW.PrintLast Go.Proofs.YthnigkbbmhnafaaW.PrintMore
set_option linter.unusedVariables false
set_option linter.unusedSimpArgs false
def Z_Veneer (x : S66) : Nat := x.f0.size
theorem sz_Veneer (x : S66) (hw : W66 x) (c : Int) (h0 : 0 ≤ c) (h1 : c ≤ 1048576) : Ev (fun k => laws_szVeneer.f (x.f0) (x.f1) (x.f2) c) (cut c (Z_Veneer x)) := by
  have hM : maxLen = 9223372036854775807 := by decide
  unfold W66 at hw
  obtain ⟨w0, w1, w2⟩ := hw
  simp only [laws_szVeneer.f]
  have b0 : x.f0.size ≤ maxLen := w0
  rw [hM] at b0
  have e0 : wrap64 (c - ((x.f0.size : Nat) : Int)) = c - ((x.f0.size : Nat) : Int) := wr64 (by omega) (by omega)
  simp only [e0]
  by_cases g0 : c - ((x.f0.size : Nat) : Int) < 0
  · rw [cut_neg (by unfold Z_Veneer; omega)]; exact Ev_t g0 (Ev_n rfl)
  refine Ev_f g0 ?_
  obtain ⟨c0, hc0⟩ : ∃ z_, z_ = c - ((x.f0.size : Nat) : Int) := ⟨_, rfl⟩
  simp only [← hc0]
  rw [cut_pos (by unfold Z_Veneer; omega)]
  exact Ev_n (by unfold Z_Veneer; omega)
def conv_Veneer (x : S66) : S69 := ⟨x.f0, x.f1, x.f2⟩
def B_Veneer (x : S66) : Prop := True
theorem B_of_Veneer (x : S66) (h : (Z_Veneer x : Int) ≤ 1048576) : B_Veneer x := by
  unfold Z_Veneer at h
  unfold B_Veneer
  trivial
theorem to_Veneer (x : S66) (hb : B_Veneer x) : Ev (fun k => laws_toVeneer.f (x.f0) (x.f1) (x.f2)) ((conv_Veneer x).f0, (conv_Veneer x).f1, (conv_Veneer x).f2) := by
  unfold B_Veneer at hb
  simp only [laws_toVeneer.f]
  exact Ev_n rfl
def E_Veneer (x : S69) : Prop := True
theorem E_of_Veneer (x : S66) (hb : B_Veneer x) : E_Veneer (conv_Veneer x) := by
  unfold B_Veneer at hb
  unfold E_Veneer
  exact trivial
theorem eq_Veneer (x : S69) (he : E_Veneer x) : Ev (fun k => laws_eqVeneer.f (x.f0) (x.f1) (x.f2) (x.f0) (x.f1) (x.f2)) true := by
  unfold E_Veneer at he
  simp only [laws_eqVeneer.f, if_true]
  exact Ev_n rfl
theorem rdl_Entry (l : List S68) (i : Nat) (h : i < l.length) : rd_T68 l (i : Int) = l[i] := by unfold rd_T68; exact getD_in l _ i h
theorem rdi_Entry (l : List S71) (i : Nat) (h : i < l.length) : rd_T71 l (i : Int) = l[i] := by unfold rd_T71; exact getD_in l _ i h
theorem rda_Entry (a b : List S71) (x : S71) (i : Nat) (h : a.length = i) : rd_T71 (a ++ x :: b) (i : Int) = x := by unfold rd_T71; exact getD_at a b _ x i h
def Z_Entry (x : S68) : Nat := x.f0.size + (Z_Veneer x.f1)
def ZS_Entry (l : List S68) : Nat := l.length + (l.map Z_Entry).sum
theorem ZS_in_Entry (l : List S68) : l.length ≤ ZS_Entry l ∧ ∀ y ∈ l, Z_Entry y ≤ ZS_Entry l := ⟨by unfold ZS_Entry; omega, fun y hy => by have := sum_le Z_Entry l y hy; unfold ZS_Entry; omega⟩
theorem sz_Entry (x : S68) (hw : W68 x) (c : Int) (h0 : 0 ≤ c) (h1 : c ≤ 1048576) : Ev (fun k => laws_szEntry.f (x.f0) (x.f1.f0) (x.f1.f1) (x.f1.f2) c) (cut c (Z_Entry x)) := by
  have hM : maxLen = 9223372036854775807 := by decide
  unfold W68 at hw
  obtain ⟨w0, w1⟩ := hw
  simp only [laws_szEntry.f]
  have b0 : x.f0.size ≤ maxLen := w0
  rw [hM] at b0
  have e0 : wrap64 (c - ((x.f0.size : Nat) : Int)) = c - ((x.f0.size : Nat) : Int) := wr64 (by omega) (by omega)
  simp only [e0]
  by_cases g0 : c - ((x.f0.size : Nat) : Int) < 0
  · rw [cut_neg (by unfold Z_Entry; omega)]; exact Ev_t g0 (Ev_n rfl)
  refine Ev_f g0 ?_
  obtain ⟨c0, hc0⟩ : ∃ z_, z_ = c - ((x.f0.size : Nat) : Int) := ⟨_, rfl⟩
  simp only [← hc0]
  refine Ev_b (sz_Veneer x.f1 w1 c0 (by omega) (by omega)) ?_
  by_cases g1 : (((Z_Veneer x.f1) : Nat) : Int) ≤ c0
  case neg => rw [cut_neg g1, cut_neg (by unfold Z_Entry; omega)]; exact Ev_t (by decide) (Ev_n rfl)
  rw [cut_pos g1]
  refine Ev_f (by omega) ?_
  obtain ⟨c1, hc1⟩ : ∃ z_, z_ = c0 - (((Z_Veneer x.f1) : Nat) : Int) := ⟨_, rfl⟩
  simp only [← hc1]
  rw [cut_pos (by unfold Z_Entry; omega)]
  exact Ev_n (by unfold Z_Entry; omega)
theorem szS_Entry (l : List S68) (hl : l.length ≤ maxLen) (hw : ∀ y ∈ l, W68 y) (c : Int) (h0 : 0 ≤ c) (h1 : c ≤ 1048576) : Ev (fun k => laws_szEntryS.f k l c) (cut c (ZS_Entry l)) := by
  have hM : maxLen = 9223372036854775807 := by decide
  rw [hM] at hl
  have go : ∀ (d i : Nat) (c : Int), i + d = l.length → l.length ≤ 1048576 → 0 ≤ c → c ≤ 1048576 → Ev (fun k => laws_szEntryS.l0 k l c i) (cut c (((l.drop i).map Z_Entry).sum : Nat)) := by
    intro d
    induction d with
    | zero =>
      intro i c q1 q2 q3 q4
      refine Ev_suc ?_
      simp only [laws_szEntryS.l0]
      rw [List.drop_of_length_le (by omega), cut_pos (by simpa using q3)]
      exact Ev_f (by omega) (Ev_n (by simp))
    | succ d ih =>
      intro i c q1 q2 q3 q4
      refine Ev_suc ?_
      simp only [laws_szEntryS.l0]
      refine Ev_t (by omega) (Ev_t (by omega) ?_)
      rw [rdl_Entry l i (by omega)]
      refine Ev_b (sz_Entry l[i] (hw _ (List.getElem_mem _)) c q3 q4) ?_
      rw [List.drop_eq_getElem_cons (show i < l.length by omega), List.map_cons, List.sum_cons]
      by_cases g : ((Z_Entry l[i] : Nat) : Int) ≤ c
      case neg => rw [cut_neg g, cut_neg (by omega)]; exact Ev_t (by decide) (Ev_n rfl)
      rw [cut_pos g]
      refine Ev_f (by omega) ?_
      rw [wr64s i (by omega)]
      refine Ev_at (ih (i + 1) _ (by omega) q2 (by omega) (by omega)) ?_
      unfold cut
      split <;> split <;> omega
  simp only [laws_szEntryS.f]
  rw [wr64 (x := c - (l.length : Int)) (by omega) (by omega)]
  by_cases g : c - (l.length : Int) < 0
  · rw [cut_neg (by unfold ZS_Entry; omega)]
    exact Ev_t g (Ev_n rfl)
  · refine Ev_f g (Ev_at (go l.length 0 _ (by omega) (by omega) (by omega) (by omega)) ?_)
    rw [List.drop_zero]
    unfold cut ZS_Entry
    split <;> split <;> omega
def conv_Entry (x : S68) : S71 := ⟨x.f0, (conv_Veneer x.f1)⟩
def B_Entry (x : S68) : Prop := B_Veneer x.f1
theorem B_of_Entry (x : S68) (h : (Z_Entry x : Int) ≤ 1048576) : B_Entry x := by
  unfold Z_Entry at h
  unfold B_Entry
  exact B_of_Veneer x.f1 (by omega)
theorem to_Entry (x : S68) (hb : B_Entry x) : Ev (fun k => laws_toEntry.f (x.f0) (x.f1.f0) (x.f1.f1) (x.f1.f2)) ((conv_Entry x).f0, (conv_Entry x).f1.f0, (conv_Entry x).f1.f1, (conv_Entry x).f1.f2) := by
  unfold B_Entry at hb
  simp only [laws_toEntry.f]
  refine Ev_b (to_Veneer x.f1 hb) ?_
  exact Ev_n rfl
theorem toS_Entry (l : List S68) (hl : (l.length : Int) ≤ 1048576) (hb : ∀ y ∈ l, B_Entry y) : Ev (fun k => laws_toEntryS.f k l) (l.map conv_Entry) := by
  have go : ∀ (d i : Nat) (xs : List S71), i + d = l.length → xs.length = l.length → xs.take i = (l.map conv_Entry).take i → Ev (fun k => laws_toEntryS.l0 k l xs i) (l.map conv_Entry) := by
    intro d
    induction d with
    | zero =>
      intro i xs q1 q2 q3
      refine Ev_suc ?_
      simp only [laws_toEntryS.l0]
      rw [List.take_of_length_le (by omega), List.take_of_length_le (by simp; omega)] at q3
      rw [q3]
      exact Ev_f (by omega) (Ev_n rfl)
    | succ d ih =>
      intro i xs q1 q2 q3
      refine Ev_suc ?_
      simp only [laws_toEntryS.l0]
      refine Ev_t (by omega) (Ev_t (by omega) ?_)
      rw [rdl_Entry l i (by omega)]
      refine Ev_b (to_Entry l[i] (hb _ (List.getElem_mem _))) ?_
      refine Ev_t (by omega) ?_
      rw [wr64s i (by omega), Int.toNat_natCast]
      refine ih (i + 1) _ (by omega) (by rw [List.length_set]; exact q2) ?_
      rw [set_take' _ _ _ (by omega), q3, List.take_succ_eq_append_getElem (by simp; omega)]
      simp [conv_Entry]
  simp only [laws_toEntryS.f]
  refine Ev_t (by omega) (Ev_t (by omega) ?_)
  exact go l.length 0 _ (by omega) (by simp) (by simp)
def E_Entry (x : S71) : Prop := E_Veneer x.f1
theorem E_of_Entry (x : S68) (hb : B_Entry x) : E_Entry (conv_Entry x) := by
  unfold B_Entry at hb
  unfold E_Entry
  exact E_of_Veneer _ hb
theorem eq_Entry (x : S71) (he : E_Entry x) : Ev (fun k => laws_eqEntry.f (x.f0) (x.f1.f0) (x.f1.f1) (x.f1.f2) (x.f0) (x.f1.f0) (x.f1.f1) (x.f1.f2)) true := by
  unfold E_Entry at he
  simp only [laws_eqEntry.f, if_true]
  refine Ev_b (eq_Veneer x.f1 he) ?_
  simp only [if_true]
  exact Ev_n rfl
theorem eqS_Entry (m : List S71) (hl : (m.length : Int) ≤ 1048576) (he : ∀ y ∈ m, E_Entry y) : Ev (fun k => laws_eqEntryS.f k m m) true := by
  have go : ∀ (d i : Nat), i + d = m.length → Ev (fun k => laws_eqEntryS.l0 k m m i) true := by
    intro d
    induction d with
    | zero =>
      intro i q1
      refine Ev_suc ?_
      simp only [laws_eqEntryS.l0]
      exact Ev_f (by omega) (Ev_n rfl)
    | succ d ih =>
      intro i q1
      refine Ev_suc ?_
      simp only [laws_eqEntryS.l0]
      refine Ev_t (by omega) (Ev_t (by omega) (Ev_t (by omega) ?_))
      rw [rdi_Entry m i (by omega)]
      refine Ev_b (eq_Entry m[i] (he _ (List.getElem_mem _))) ?_
      rw [wr64s i (by omega)]
      exact Ev_t rfl (ih (i + 1) (by omega))
  simp only [laws_eqEntryS.f]
  exact Ev_t (by first | trivial | rfl) (go m.length 0 (by omega))
theorem mk_Entry (l : List S71) (c : Int) (h0 : 0 ≤ c) (h1 : c ≤ 1000000000000000) (hl : (l.length : Int) ≤ 1000000000000) : ∃ l', l'.length = l.length ∧ Ev (fun k => laws_markEntryS.f k l c) (c + 4 * l.length, l') ∧ Ev (fun k => laws_heldEntryS.f k l' c) (c + 4 * l.length) := by
  have go : ∀ (q p : List S71) (i : Nat) (c : Int), p.length = i → 0 ≤ c → c + 4 * q.length ≤ 100000000000000000 → (i : Int) + q.length ≤ 1000000000000 → ∃ q', q'.length = q.length ∧ Ev (fun k => laws_markEntryS.l0 k (p ++ q) c i) (c + 4 * q.length, p ++ q') ∧ ∀ r : List S71, r.length = i → Ev (fun k => laws_heldEntryS.l0 k (r ++ q') c i) (c + 4 * q.length) := by
    intro q
    induction q with
    | nil =>
      intro p i c q1 q2 q3 q4
      refine ⟨[], rfl, Ev_suc ?_, fun r hr => Ev_suc ?_⟩
      · simp only [laws_markEntryS.l0]
        exact Ev_f (by simp; omega) (Ev_n (by simp))
      · simp only [laws_heldEntryS.l0]
        exact Ev_f (by simp; omega) (Ev_n (by simp))
    | cons x q ih =>
      intro p i c q1 q2 q3 q4
      simp only [List.length_cons] at q3 q4
      have e0 : wrap64 (c + 1) = c + 1 := (wr64 (by omega) (by omega)).trans (by omega)
      have e1 : wrap64 (c + 1 + 1) = c + 2 := (wr64 (by omega) (by omega)).trans (by omega)
      have e2 : wrap64 (c + 2 + 1) = c + 3 := (wr64 (by omega) (by omega)).trans (by omega)
      have e3 : wrap64 (c + 3 + 1) = c + 4 := (wr64 (by omega) (by omega)).trans (by omega)
      obtain ⟨t0, ht0⟩ := markText_ev (c) (by omega) (by omega)
      obtain ⟨t1, ht1⟩ := markText_ev (c + 1) (by omega) (by omega)
      obtain ⟨q', hq, hm, hh⟩ := ih (p ++ [(⟨t0, (⟨t1, c + 2, c + 3⟩ : S69)⟩ : S71)]) (i + 1) (c + 4) (by simp; omega) (by omega) (by omega) (by omega)
      refine ⟨(⟨t0, (⟨t1, c + 2, c + 3⟩ : S69)⟩ : S71) :: q', by simp [hq], Ev_suc ?_, fun r hr => Ev_suc ?_⟩
      · simp only [laws_markEntryS.l0, e0, e1, e2, e3, set_at p q _ _ i q1, rda_Entry p q _ i q1]
        refine Ev_t (by simp; omega) ?_
        refine Ev_b ht0 ?_
        refine Ev_t (by omega) ?_
        refine Ev_s ?_
        try simp only [e0, e1, e2, e3, set_at p q _ _ i q1, rda_Entry p q _ i q1]
        refine Ev_b ht1 ?_
        refine Ev_s ?_
        try simp only [e0, e1, e2, e3, set_at p q _ _ i q1, rda_Entry p q _ i q1]
        refine Ev_s ?_
        try simp only [e0, e1, e2, e3, set_at p q _ _ i q1, rda_Entry p q _ i q1]
        try simp only [e0, e1, e2, e3, set_at p q _ _ i q1, rda_Entry p q _ i q1]
        rw [wr64s i (by omega)]
        have hm' := hm
        rw [List.append_assoc, List.singleton_append, List.append_assoc, List.singleton_append] at hm'
        exact Ev_at hm' (by simp only [List.length_cons, Prod.mk.injEq, and_true]; omega)
      · simp only [laws_heldEntryS.l0, e0, e1, e2, e3, rda_Entry r q' _ i hr]
        refine Ev_t (by simp; omega) ?_
        refine Ev_t (by omega) ?_
        refine Ev_b ht0 ?_
        refine Ev_t (by first | rfl | exact True.intro | omega) ?_
        refine Ev_b ht1 ?_
        refine Ev_t (by first | rfl | exact True.intro | omega) ?_
        refine Ev_t (by first | rfl | exact True.intro | omega) ?_
        refine Ev_t (by first | rfl | exact True.intro | omega) ?_
        rw [wr64s i (by omega)]
        have hh' := hh (r ++ [(⟨t0, (⟨t1, c + 2, c + 3⟩ : S69)⟩ : S71)]) (by simp; omega)
        rw [List.append_assoc, List.singleton_append] at hh'
        exact Ev_at hh' (by simp only [List.length_cons]; omega)
  obtain ⟨l', e1, e2, e3⟩ := go l [] 0 c rfl h0 (by omega) (by simpa using hl)
  refine ⟨l', e1, ?_, ?_⟩
  · simp only [laws_markEntryS.f]; exact e2
  · simp only [laws_heldEntryS.f]; exact e3 [] rfl
theorem rdl_Version (l : List S77) (i : Nat) (h : i < l.length) : rd_T77 l (i : Int) = l[i] := by unfold rd_T77; exact getD_in l _ i h
theorem rdi_Version (l : List S79) (i : Nat) (h : i < l.length) : rd_T79 l (i : Int) = l[i] := by unfold rd_T79; exact getD_in l _ i h
theorem rda_Version (a b : List S79) (x : S79) (i : Nat) (h : a.length = i) : rd_T79 (a ++ x :: b) (i : Int) = x := by unfold rd_T79; exact getD_at a b _ x i h
def Z_Version (x : S77) : Nat := x.f2.size + (ZS_Entry x.f3)
def ZS_Version (l : List S77) : Nat := l.length + (l.map Z_Version).sum
theorem ZS_in_Version (l : List S77) : l.length ≤ ZS_Version l ∧ ∀ y ∈ l, Z_Version y ≤ ZS_Version l := ⟨by unfold ZS_Version; omega, fun y hy => by have := sum_le Z_Version l y hy; unfold ZS_Version; omega⟩
theorem sz_Version (x : S77) (hw : W77 x) (c : Int) (h0 : 0 ≤ c) (h1 : c ≤ 1048576) : Ev (fun k => laws_szVersion.f k (x.f0) (x.f1) (x.f2) (x.f3) c) (cut c (Z_Version x)) := by
  have hM : maxLen = 9223372036854775807 := by decide
  unfold W77 at hw
  obtain ⟨w0, w1, w2, w3⟩ := hw
  simp only [laws_szVersion.f]
  have b2 : x.f2.size ≤ maxLen := w2
  rw [hM] at b2
  have e2 : wrap64 (c - ((x.f2.size : Nat) : Int)) = c - ((x.f2.size : Nat) : Int) := wr64 (by omega) (by omega)
  simp only [e2]
  by_cases g2 : c - ((x.f2.size : Nat) : Int) < 0
  · rw [cut_neg (by unfold Z_Version; omega)]; exact Ev_t g2 (Ev_n rfl)
  refine Ev_f g2 ?_
  obtain ⟨c2, hc2⟩ : ∃ z_, z_ = c - ((x.f2.size : Nat) : Int) := ⟨_, rfl⟩
  simp only [← hc2]
  refine Ev_b (szS_Entry x.f3 w3.1 w3.2 c2 (by omega) (by omega)) ?_
  by_cases g3 : (((ZS_Entry x.f3) : Nat) : Int) ≤ c2
  case neg => rw [cut_neg g3, cut_neg (by unfold Z_Version; omega)]; exact Ev_t (by decide) (Ev_n rfl)
  rw [cut_pos g3]
  refine Ev_f (by omega) ?_
  obtain ⟨c3, hc3⟩ : ∃ z_, z_ = c2 - (((ZS_Entry x.f3) : Nat) : Int) := ⟨_, rfl⟩
  simp only [← hc3]
  rw [cut_pos (by unfold Z_Version; omega)]
  exact Ev_n (by unfold Z_Version; omega)
theorem szS_Version (l : List S77) (hl : l.length ≤ maxLen) (hw : ∀ y ∈ l, W77 y) (c : Int) (h0 : 0 ≤ c) (h1 : c ≤ 1048576) : Ev (fun k => laws_szVersionS.f k l c) (cut c (ZS_Version l)) := by
  have hM : maxLen = 9223372036854775807 := by decide
  rw [hM] at hl
  have go : ∀ (d i : Nat) (c : Int), i + d = l.length → l.length ≤ 1048576 → 0 ≤ c → c ≤ 1048576 → Ev (fun k => laws_szVersionS.l0 k l c i) (cut c (((l.drop i).map Z_Version).sum : Nat)) := by
    intro d
    induction d with
    | zero =>
      intro i c q1 q2 q3 q4
      refine Ev_suc ?_
      simp only [laws_szVersionS.l0]
      rw [List.drop_of_length_le (by omega), cut_pos (by simpa using q3)]
      exact Ev_f (by omega) (Ev_n (by simp))
    | succ d ih =>
      intro i c q1 q2 q3 q4
      refine Ev_suc ?_
      simp only [laws_szVersionS.l0]
      refine Ev_t (by omega) (Ev_t (by omega) ?_)
      rw [rdl_Version l i (by omega)]
      refine Ev_b (sz_Version l[i] (hw _ (List.getElem_mem _)) c q3 q4) ?_
      rw [List.drop_eq_getElem_cons (show i < l.length by omega), List.map_cons, List.sum_cons]
      by_cases g : ((Z_Version l[i] : Nat) : Int) ≤ c
      case neg => rw [cut_neg g, cut_neg (by omega)]; exact Ev_t (by decide) (Ev_n rfl)
      rw [cut_pos g]
      refine Ev_f (by omega) ?_
      rw [wr64s i (by omega)]
      refine Ev_at (ih (i + 1) _ (by omega) q2 (by omega) (by omega)) ?_
      unfold cut
      split <;> split <;> omega
  simp only [laws_szVersionS.f]
  rw [wr64 (x := c - (l.length : Int)) (by omega) (by omega)]
  by_cases g : c - (l.length : Int) < 0
  · rw [cut_neg (by unfold ZS_Version; omega)]
    exact Ev_t g (Ev_n rfl)
  · refine Ev_f g (Ev_at (go l.length 0 _ (by omega) (by omega) (by omega) (by omega)) ?_)
    rw [List.drop_zero]
    unfold cut ZS_Version
    split <;> split <;> omega
def conv_Version (x : S77) : S79 := ⟨x.f0, x.f1, x.f2, (x.f3.map conv_Entry)⟩
def B_Version (x : S77) : Prop := ((x.f3.length : Int) ≤ 1048576 ∧ ∀ y ∈ x.f3, B_Entry y)
theorem B_of_Version (x : S77) (h : (Z_Version x : Int) ≤ 1048576) : B_Version x := by
  unfold Z_Version at h
  unfold B_Version
  exact ⟨by have := (ZS_in_Entry x.f3).1; omega, fun y hy => B_of_Entry y (by have := (ZS_in_Entry x.f3).2 y hy; omega)⟩
theorem to_Version (x : S77) (hb : B_Version x) : Ev (fun k => laws_toVersion.f k (x.f0) (x.f1) (x.f2) (x.f3)) ((conv_Version x).f0, (conv_Version x).f1, (conv_Version x).f2, (conv_Version x).f3) := by
  unfold B_Version at hb
  simp only [laws_toVersion.f]
  refine Ev_b (toS_Entry x.f3 hb.1 hb.2) ?_
  exact Ev_n rfl
theorem toS_Version (l : List S77) (hl : (l.length : Int) ≤ 1048576) (hb : ∀ y ∈ l, B_Version y) : Ev (fun k => laws_toVersionS.f k l) (l.map conv_Version) := by
  have go : ∀ (d i : Nat) (xs : List S79), i + d = l.length → xs.length = l.length → xs.take i = (l.map conv_Version).take i → Ev (fun k => laws_toVersionS.l0 k l xs i) (l.map conv_Version) := by
    intro d
    induction d with
    | zero =>
      intro i xs q1 q2 q3
      refine Ev_suc ?_
      simp only [laws_toVersionS.l0]
      rw [List.take_of_length_le (by omega), List.take_of_length_le (by simp; omega)] at q3
      rw [q3]
      exact Ev_f (by omega) (Ev_n rfl)
    | succ d ih =>
      intro i xs q1 q2 q3
      refine Ev_suc ?_
      simp only [laws_toVersionS.l0]
      refine Ev_t (by omega) (Ev_t (by omega) ?_)
      rw [rdl_Version l i (by omega)]
      refine Ev_b (to_Version l[i] (hb _ (List.getElem_mem _))) ?_
      refine Ev_t (by omega) ?_
      rw [wr64s i (by omega), Int.toNat_natCast]
      refine ih (i + 1) _ (by omega) (by rw [List.length_set]; exact q2) ?_
      rw [set_take' _ _ _ (by omega), q3, List.take_succ_eq_append_getElem (by simp; omega)]
      simp [conv_Version]
  simp only [laws_toVersionS.f]
  refine Ev_t (by omega) (Ev_t (by omega) ?_)
  exact go l.length 0 _ (by omega) (by simp) (by simp)
def E_Version (x : S79) : Prop := ((x.f3.length : Int) ≤ 1048576 ∧ ∀ y ∈ x.f3, E_Entry y)
theorem E_of_Version (x : S77) (hb : B_Version x) : E_Version (conv_Version x) := by
  unfold B_Version at hb
  unfold E_Version
  exact ⟨by unfold conv_Version; simpa using hb.1, fun y hy => by have hy' : y ∈ x.f3.map conv_Entry := hy; obtain ⟨z, hz, rfl⟩ := List.mem_map.1 hy'; exact E_of_Entry z (hb.2 z hz)⟩
theorem eq_Version (x : S79) (he : E_Version x) : Ev (fun k => laws_eqVersion.f k (x.f0) (x.f1) (x.f2) (x.f3) (x.f0) (x.f1) (x.f2) (x.f3)) true := by
  unfold E_Version at he
  simp only [laws_eqVersion.f, if_true]
  refine Ev_b (eqS_Entry x.f3 he.1 he.2) ?_
  simp only [if_true]
  exact Ev_n rfl
theorem eqS_Version (m : List S79) (hl : (m.length : Int) ≤ 1048576) (he : ∀ y ∈ m, E_Version y) : Ev (fun k => laws_eqVersionS.f k m m) true := by
  have go : ∀ (d i : Nat), i + d = m.length → Ev (fun k => laws_eqVersionS.l0 k m m i) true := by
    intro d
    induction d with
    | zero =>
      intro i q1
      refine Ev_suc ?_
      simp only [laws_eqVersionS.l0]
      exact Ev_f (by omega) (Ev_n rfl)
    | succ d ih =>
      intro i q1
      refine Ev_suc ?_
      simp only [laws_eqVersionS.l0]
      refine Ev_t (by omega) (Ev_t (by omega) (Ev_t (by omega) ?_))
      rw [rdi_Version m i (by omega)]
      refine Ev_b (eq_Version m[i] (he _ (List.getElem_mem _))) ?_
      rw [wr64s i (by omega)]
      exact Ev_t rfl (ih (i + 1) (by omega))
  simp only [laws_eqVersionS.f]
  exact Ev_t (by first | trivial | rfl) (go m.length 0 (by omega))
end Go.Proofs.Ythnigkbbmhnafaa.Q
namespace Go.Proofs.Ythnigkbbmhnafaa.Q
open Go.RowKit Go.Proofs.YthnigkbbmhnafaaW.PrintWords Go.Proofs.YthnigkbbmhnafaaW.PrintLast Go.Proofs.YthnigkbbmhnafaaW.PrintMore
structure Ordr {κ : Type} (c : κ → κ → Int) : Prop where
  zero : ∀ a b, c a b = 0 ↔ a = b
  anti : ∀ a b, c a b < 0 ↔ 0 < c b a
  trans : ∀ a b d, c a b < 0 → c b d < 0 → c a d < 0
theorem Ordr.step {κ : Type} {c : κ → κ → Int} (h : Ordr c) {x y t : κ} (h1 : c x y < 0) (h2 : 0 ≤ c x t) : 0 < c y t := by
  by_cases e : c x t = 0
  · have := (h.zero x t).1 e
    subst this
    exact (h.anti _ _).1 h1
  · have q : c t x < 0 := (h.anti t x).2 (by omega)
    exact (h.anti t y).1 (h.trans t x y q h1)
end Go.Proofs.Ythnigkbbmhnafaa.Q
namespace Go.Proofs.Ythnigkbbmhnafaa.Q
open Go.RowKit Go.Proofs.YthnigkbbmhnafaaW.PrintWords Go.Proofs.YthnigkbbmhnafaaW.PrintLast Go.Proofs.YthnigkbbmhnafaaW.PrintMore
theorem ite_and (b c : Bool) : (if b = true then some c else some false) = some (b && c) := by cases b <;> rfl
theorem in_f (a b c : Int) : spec_l00In.f a b c = some (decide (b ≤ a) && decide (a ≤ c)) := by unfold spec_l00In.f; by_cases h : a ≥ b <;> simp [h]
theorem within_f (a b c : Int) : impl_within.f a b c = some (decide (b ≤ a) && decide (a ≤ c)) := by unfold impl_within.f; by_cases h : a ≥ b <;> simp [h]
theorem w64 {x : Int} (h0 : -9223372036854775808 ≤ x) (h1 : x < 9223372036854775808) : wrap64 x = x := by unfold wrap64; omega
end Go.Proofs.Ythnigkbbmhnafaa.Q
namespace Go.Proofs.Ythnigkbbmhnafaa.Q
open Go.RowKit Go.Proofs.YthnigkbbmhnafaaW.PrintWords Go.Proofs.YthnigkbbmhnafaaW.PrintLast Go.Proofs.YthnigkbbmhnafaaW.PrintMore
theorem toList_len (x : ByteArray) : x.toList.length = x.size := by
  rw [Go.ByteArray.toList_eq x, Array.length_toList]; rfl
theorem name_round (k : Nat) (x : ByteArray) (i : Int) : spec_l01Name.l0 k x i = impl_IsName.l0 k x i := by
  induction k generalizing i with
  | zero => rfl
  | succ k ih =>
    simp only [spec_l01Name.l0, impl_IsName.l0, ih, spec_l01Small.f, spec_l01Digit.f]
    by_cases h1 : i < (x.size : Int)
    · rw [if_pos h1, if_pos h1]
      by_cases h2 : 0 ≤ i
      · rw [if_pos h2, if_pos h2]
        generalize bt x i = c
        by_cases h3 : c < 97
        · rw [if_pos h3, if_neg (by omega)]
          by_cases h4 : c < 48
          · rw [if_pos h4, if_neg (by omega)]; simp
          · rw [if_neg h4, if_pos (by omega)]
            by_cases h5 : c > 57
            · rw [if_pos h5]; simp [show ¬ c ≤ 57 by omega]
            · rw [if_neg h5]; simp [show c ≤ 57 by omega]
        · rw [if_neg h3, if_pos (show c ≥ 97 by omega)]
          by_cases h4 : c > 122
          · simp [h4, show ¬ c < 48 by omega, show c > 57 by omega, show ¬ c ≤ 122 by omega, show ¬ c ≤ 57 by omega]
          · rw [if_neg h4]; simp [show c ≤ 122 by omega]
      · rw [if_neg h2, if_neg h2]
    · rw [if_neg h1, if_neg h1]
theorem name_same (k : Nat) (x : ByteArray) : spec_l01Name.f k x = impl_IsName.f k x := by
  have hj : ∀ b, spec_l01Name.j0 k x b = impl_IsName.j0 k x b := by
    intro b
    cases k with
    | zero => rfl
    | succ k => simp only [spec_l01Name.j0, impl_IsName.j0, name_round]
  unfold spec_l01Name.f impl_IsName.f spec_l01Small.f
  simp only [hj]
  by_cases h0 : x.toList = []
  · have : x.size = 0 := by rw [← toList_len, h0]; rfl
    rw [if_pos h0, if_pos (by omega)]
  · have : x.size ≠ 0 := by
      intro e; apply h0; apply List.eq_nil_of_length_eq_zero; rw [toList_len, e]
    rw [if_neg h0, if_neg (show ¬ (x.size : Int) < 1 by omega)]
    by_cases h1 : (x.size : Int) > 10
    · rw [if_pos h1, if_pos h1]
    · rw [if_neg h1, if_neg h1, if_pos (show 0 < (x.size : Int) by omega), if_pos (show 0 < (x.size : Int) by omega)]
      generalize bt x 0 = c
      by_cases h3 : c < 97
      · rw [if_pos h3, if_neg (show ¬ c ≥ 97 by omega)]; rfl
      · rw [if_neg h3, if_pos (show c ≥ 97 by omega)]
        simp only [Option.bind_some]
        congr 1
        by_cases h4 : c > 122
        · simp [h4, show ¬ c ≤ 122 by omega]
        · simp [h4, show c ≤ 122 by omega]
theorem name_ev (x : ByteArray) : ∃ b, ∀ k, 12 < k → impl_IsName.f k x = some b := by
  have go : ∀ (d : Nat) (i : Int), 0 ≤ i → i + d = x.size → (x.size : Int) ≤ 10 → ∃ b, ∀ k, d < k → impl_IsName.l0 k x i = some b := by
    intro d
    induction d with
    | zero =>
      intro i h0 h1 _
      refine ⟨true, fun k hk => ?_⟩
      obtain ⟨k, rfl⟩ : ∃ m, k = m + 1 := ⟨k - 1, by omega⟩
      simp only [impl_IsName.l0]
      rw [if_neg (by omega)]
    | succ d ih =>
      intro i h0 h1 h2
      obtain ⟨b, hb⟩ := ih (i + 1) (by omega) (by omega) h2
      by_cases h3 : bt x i < 97
      · by_cases h4 : bt x i < 48
        · refine ⟨false, fun k hk => ?_⟩
          obtain ⟨k, rfl⟩ : ∃ m, k = m + 1 := ⟨k - 1, by omega⟩
          simp only [impl_IsName.l0]
          rw [if_pos (by omega), if_pos h0, if_pos h3, if_pos h4]
        · by_cases h5 : bt x i > 57
          · refine ⟨false, fun k hk => ?_⟩
            obtain ⟨k, rfl⟩ : ∃ m, k = m + 1 := ⟨k - 1, by omega⟩
            simp only [impl_IsName.l0]
            rw [if_pos (by omega), if_pos h0, if_pos h3, if_neg h4, if_pos h5]
          · refine ⟨b, fun k hk => ?_⟩
            obtain ⟨k, rfl⟩ : ∃ m, k = m + 1 := ⟨k - 1, by omega⟩
            simp only [impl_IsName.l0]
            rw [if_pos (by omega), if_pos h0, if_pos h3, if_neg h4, if_neg h5, w64 (by omega) (by omega), hb k (by omega)]
      · by_cases h4 : bt x i > 122
        · refine ⟨false, fun k hk => ?_⟩
          obtain ⟨k, rfl⟩ : ∃ m, k = m + 1 := ⟨k - 1, by omega⟩
          simp only [impl_IsName.l0]
          rw [if_pos (by omega), if_pos h0, if_neg h3, if_pos h4, if_neg (by omega), if_pos (by omega)]
        · refine ⟨b, fun k hk => ?_⟩
          obtain ⟨k, rfl⟩ : ∃ m, k = m + 1 := ⟨k - 1, by omega⟩
          simp only [impl_IsName.l0]
          rw [if_pos (by omega), if_pos h0, if_neg h3, if_neg h4, w64 (by omega) (by omega), hb k (by omega)]
  have hj : ∀ (b : Bool), (b = false → (x.size : Int) ≤ 10) → ∃ c, ∀ k, 12 < k → impl_IsName.j0 k x b = some c := by
    intro b hs
    cases b with
    | true =>
      refine ⟨false, fun k hk => ?_⟩
      obtain ⟨k, rfl⟩ : ∃ m, k = m + 1 := ⟨k - 1, by omega⟩
      simp only [impl_IsName.j0, if_true]
    | false =>
      obtain ⟨c, hc⟩ := go x.size 0 (by omega) (by omega) (hs rfl)
      have := hs rfl
      refine ⟨c, fun k hk => ?_⟩
      obtain ⟨k, rfl⟩ : ∃ m, k = m + 1 := ⟨k - 1, by omega⟩
      simp only [impl_IsName.j0]
      rw [if_neg (by decide), hc k (by omega)]
  unfold impl_IsName.f
  by_cases h1 : (x.size : Int) < 1
  · simp only [if_pos h1]; exact hj true (by intro h; cases h)
  · simp only [if_neg h1]
    by_cases h2 : (x.size : Int) > 10
    · simp only [if_pos h2]; exact hj true (by intro h; cases h)
    · simp only [if_neg h2, if_pos (show 0 < (x.size : Int) by omega)]
      by_cases h3 : bt x 0 < 97
      · simp only [if_pos h3]; exact hj true (by intro h; cases h)
      · simp only [if_neg h3]; exact hj _ (fun _ => by omega)
end Go.Proofs.Ythnigkbbmhnafaa.Q
namespace Go.Proofs.Ythnigkbbmhnafaa.Q
open Go.RowKit Go.Proofs.YthnigkbbmhnafaaW.PrintWords Go.Proofs.YthnigkbbmhnafaaW.PrintLast Go.Proofs.YthnigkbbmhnafaaW.PrintMore
def spi (l : List UInt8) : Int := if l = [97, 115, 104] then 0 else if l = [98, 101, 101, 99, 104] then 1 else if l = [98, 105, 114, 99, 104] then 2 else if l = [99, 104, 101, 114, 114, 121] then 3 else if l = [101, 98, 111, 110, 121] then 4 else if l = [104, 111, 108, 108, 121] then 5 else if l = [109, 97, 112, 108, 101] then 6 else if l = [111, 97, 107] then 7 else if l = [114, 111, 115, 101, 119, 111, 111, 100] then 8 else if l = [119, 97, 108, 110, 117, 116] then 9 else -1
def shades : List Int := [20, 35, 15, 50, 95, 5, 10, 40, 80, 70]
theorem sp_cases (l : List UInt8) : (l = [97, 115, 104]) ∨ (l = [98, 101, 101, 99, 104]) ∨ (l = [98, 105, 114, 99, 104]) ∨ (l = [99, 104, 101, 114, 114, 121]) ∨ (l = [101, 98, 111, 110, 121]) ∨ (l = [104, 111, 108, 108, 121]) ∨ (l = [109, 97, 112, 108, 101]) ∨ (l = [111, 97, 107]) ∨ (l = [114, 111, 115, 101, 119, 111, 111, 100]) ∨ (l = [119, 97, 108, 110, 117, 116]) ∨ (¬ l = [97, 115, 104] ∧ ¬ l = [98, 101, 101, 99, 104] ∧ ¬ l = [98, 105, 114, 99, 104] ∧ ¬ l = [99, 104, 101, 114, 114, 121] ∧ ¬ l = [101, 98, 111, 110, 121] ∧ ¬ l = [104, 111, 108, 108, 121] ∧ ¬ l = [109, 97, 112, 108, 101] ∧ ¬ l = [111, 97, 107] ∧ ¬ l = [114, 111, 115, 101, 119, 111, 111, 100] ∧ ¬ l = [119, 97, 108, 110, 117, 116]) := by
  by_cases h0 : l = [97, 115, 104]
  · exact .inl h0
  by_cases h1 : l = [98, 101, 101, 99, 104]
  · exact .inr ((.inl h1))
  by_cases h2 : l = [98, 105, 114, 99, 104]
  · exact .inr (.inr ((.inl h2)))
  by_cases h3 : l = [99, 104, 101, 114, 114, 121]
  · exact .inr (.inr (.inr ((.inl h3))))
  by_cases h4 : l = [101, 98, 111, 110, 121]
  · exact .inr (.inr (.inr (.inr ((.inl h4)))))
  by_cases h5 : l = [104, 111, 108, 108, 121]
  · exact .inr (.inr (.inr (.inr (.inr ((.inl h5))))))
  by_cases h6 : l = [109, 97, 112, 108, 101]
  · exact .inr (.inr (.inr (.inr (.inr (.inr ((.inl h6)))))))
  by_cases h7 : l = [111, 97, 107]
  · exact .inr (.inr (.inr (.inr (.inr (.inr (.inr ((.inl h7))))))))
  by_cases h8 : l = [114, 111, 115, 101, 119, 111, 111, 100]
  · exact .inr (.inr (.inr (.inr (.inr (.inr (.inr (.inr ((.inl h8)))))))))
  by_cases h9 : l = [119, 97, 108, 110, 117, 116]
  · exact .inr (.inr (.inr (.inr (.inr (.inr (.inr (.inr (.inr ((.inl h9))))))))))
  exact .inr (.inr (.inr (.inr (.inr (.inr (.inr (.inr (.inr (.inr (⟨h0, h1, h2, h3, h4, h5, h6, h7, h8, h9⟩))))))))))
theorem l07Find_f (a : ByteArray) (k : Nat) (hk : 12 ≤ k) : spec_l07Find.f k a = some (spi a.toList) := by
  obtain ⟨k, rfl⟩ : ∃ m, k = m + 12 := ⟨k - 12, by omega⟩
  unfold spec_l07Find.f spec_l07Names.f spi
  simp only [Option.bind_some, spec_l07Find.l0, wrap64, rdOf]
  simp (decide := true)
  generalize a.toList = l
  simp only [eq_comm (b := l)]
  rcases sp_cases l with h | h | h | h | h | h | h | h | h | h | h
  all_goals first | (subst h; decide) | (obtain ⟨h0, h1, h2, h3, h4, h5, h6, h7, h8, h9⟩ := h; simp only [h0, h1, h2, h3, h4, h5, h6, h7, h8, h9, if_false])
def vVen (l : List UInt8) (sh gr : Int) : Bool := decide (0 ≤ spi l) && ((decide (0 ≤ sh) && decide (sh ≤ 100)) && ((decide (rd shades (spi l) - 15 ≤ sh) && decide (sh ≤ rd shades (spi l) + 15)) && (decide (0 ≤ gr) && decide (gr ≤ 179))))
theorem spi_range (l : List UInt8) : -1 ≤ spi l ∧ spi l ≤ 9 := by
  rcases sp_cases l with h | h | h | h | h | h | h | h | h | h | h
  all_goals first | (subst h; decide) | (obtain ⟨h0, h1, h2, h3, h4, h5, h6, h7, h8, h9⟩ := h; unfold spi; simp only [h0, h1, h2, h3, h4, h5, h6, h7, h8, h9, if_false]; decide)
theorem shade_of (i : Int) (h0 : 0 ≤ i) (h1 : i ≤ 9) : ∃ t, spec_l07Table.f = some t ∧ i < t.length ∧ 0 < (rd_L7 t i).length ∧ rd (rd_L7 t i) 0 = rd shades i ∧ 0 ≤ rd shades i ∧ rd shades i ≤ 100 := by
  refine ⟨_, rfl, ?_⟩
  obtain ⟨n, rfl⟩ := Int.eq_ofNat_of_zero_le h0
  have hn : n ≤ 9 := by omega
  match n, hn with
  | 0, _ => decide
  | 1, _ => decide
  | 2, _ => decide
  | 3, _ => decide
  | 4, _ => decide
  | 5, _ => decide
  | 6, _ => decide
  | 7, _ => decide
  | 8, _ => decide
  | 9, _ => decide
theorem iShade_f (a : ByteArray) : impl_speciesShade.f a = some (if 0 ≤ spi a.toList then (rd shades (spi a.toList), true) else (0, false)) := by
  unfold impl_speciesShade.f impl_SpeciesData.f spi
  generalize a.toList = l
  rcases sp_cases l with h | h | h | h | h | h | h | h | h | h | h
  all_goals first | (subst h; decide) | (obtain ⟨h0, h1, h2, h3, h4, h5, h6, h7, h8, h9⟩ := h; simp only [h0, h1, h2, h3, h4, h5, h6, h7, h8, h9, if_false]; decide)
theorem l07Ok_f (x : S69) (k : Nat) (hk : 12 ≤ k) : spec_l07Ok.f k [x] = some (vVen x.f0.toList x.f1 x.f2) := by
  obtain ⟨k, rfl⟩ : ∃ m, k = m + 1 := ⟨k - 1, by omega⟩
  have hrd : rd_T69 [x] 0 = x := rfl
  unfold spec_l07Ok.f vVen
  rw [if_pos (by simp), hrd, l07Find_f _ _ hk]
  simp only [Option.bind_some]
  have hr := spi_range x.f0.toList
  by_cases h : spi x.f0.toList < 0
  · rw [if_pos h]
    simp only [spec_l07Ok.j0, if_true]
    rw [show decide (0 ≤ spi x.f0.toList) = false from decide_eq_false (by omega)]
    rfl
  · rw [if_neg h, in_f, show decide (0 ≤ spi x.f0.toList) = true from decide_eq_true (by omega)]
    obtain ⟨t, ht, h1, h2, h3, h4, h5⟩ := shade_of (spi x.f0.toList) (by omega) (by omega)
    simp only [Option.bind_some, spec_l07Ok.j0]
    cases hs : (decide (0 ≤ x.f1) && decide (x.f1 ≤ 100))
    · simp
    · rw [if_neg (by simp), ht]
      simp only [Option.bind_some]
      rw [if_pos (by omega), if_pos h1, if_pos (by omega), if_pos (by simp), hrd, h3, in_f, w64 (by omega) (by omega), w64 (by omega) (by omega)]
      simp only [Option.bind_some, spec_l07Grain.f, in_f]
      rw [ite_and]
      simp
theorem iValidVeneer_f (a : ByteArray) (sh gr : Int) : impl_ValidVeneer.f a sh gr = some (vVen a.toList sh gr) := by
  unfold impl_ValidVeneer.f vVen
  rw [iShade_f]
  simp only [Option.bind_some]
  have hr := spi_range a.toList
  by_cases h : 0 ≤ spi a.toList
  · rw [if_pos h]
    obtain ⟨t, ht, h1, h2, h3, h4, h5⟩ := shade_of (spi a.toList) h (by omega)
    simp only [if_true, within_f, Option.bind_some]
    rw [show decide (0 ≤ spi a.toList) = true from decide_eq_true h]
    cases hs : (decide (0 ≤ sh) && decide (sh ≤ 100))
    · simp
    · have hs' : 0 ≤ sh ∧ sh ≤ 100 := by simpa using hs
      rw [w64 (by omega) (by omega)]
      simp only [if_true, ite_and, Bool.true_and]
      congr 2
      rw [Bool.eq_iff_iff]
      simp only [Bool.and_eq_true, decide_eq_true_eq]
      omega
  · rw [if_neg h, show decide (0 ≤ spi a.toList) = false from decide_eq_false h]
    simp
end Go.Proofs.Ythnigkbbmhnafaa.Q
namespace Go.Proofs.Ythnigkbbmhnafaa.Q
open Go.RowKit Go.Proofs.YthnigkbbmhnafaaW.PrintWords Go.Proofs.YthnigkbbmhnafaaW.PrintLast Go.Proofs.YthnigkbbmhnafaaW.PrintMore
abbrev Ent := S71
abbrev Ver := S79
def fcE (x : Ent) : List UInt8 := x.f0.data.toList
theorem less_iff : ∀ l m : List UInt8, Op.bytesLess l m = true ↔ Go.Lib.compareBytes l m < 0
  | [], [] => by simp [Go.Lib.compareBytes, Op.bytesLess]
  | [], _ :: _ => by simp [Go.Lib.compareBytes, Op.bytesLess]
  | _ :: _, [] => by simp [Go.Lib.compareBytes, Op.bytesLess]
  | a :: x, b :: y => by
    have ih := less_iff x y
    unfold Go.Lib.compareBytes Op.bytesLess
    by_cases hab : a < b
    · have hne : a ≠ b := fun e => by subst e; exact absurd hab (UInt8.lt_irrefl _)
      simp [hab, hne]
    · by_cases hba : b < a
      · have hne : a ≠ b := fun e => by subst e; exact absurd hba (UInt8.lt_irrefl _)
        simp [hab, hba, hne]
      · have he : a = b := UInt8.le_antisymm (UInt8.not_lt.1 hba) (UInt8.not_lt.1 hab)
        subst he
        simp only [hab, if_false]
        simpa using ih
theorem nameE_ev (x : ByteArray) : ∃ b, Ev (fun k => impl_IsName.f k x) b ∧ Ev (fun k => spec_l01Name.f k x) b := by
  obtain ⟨b, hb⟩ := name_ev x
  exact ⟨b, ⟨13, fun k hk => hb k (by omega)⟩, ⟨13, fun k hk => (name_same k x).trans (hb k (by omega))⟩⟩
theorem entry_ev (x : Ent) : ∃ b, Ev (fun k => spec_l27Entry.f k [x]) b ∧ Ev (fun k => impl_validEntry.f k x.f0 x.f1.f0 x.f1.f1 x.f1.f2) b ∧ (b = true → vVen x.f1.f0.toList x.f1.f1 x.f1.f2 = true) := by
  obtain ⟨n, h1, h2⟩ := nameE_ev x.f0
  have v1 : Ev (fun k => spec_l07Ok.f k [x.f1]) (vVen x.f1.f0.toList x.f1.f1 x.f1.f2) := ⟨12, fun k hk => l07Ok_f x.f1 k hk⟩
  have v2 := iValidVeneer_f x.f1.f0 x.f1.f1 x.f1.f2
  have r0 : rd_T71 [x] 0 = x := rfl
  cases n with
  | false =>
    refine ⟨false, ?_, ?_, fun h => by cases h⟩
    · simp only [spec_l27Entry.f, r0]; exact Ev_t (by simp) (Ev_b h2 (Ev_f (by decide) (Ev_n rfl)))
    · simp only [impl_validEntry.f]; exact Ev_b h1 (Ev_f (by decide) (Ev_n rfl))
  | true =>
    refine ⟨vVen x.f1.f0.toList x.f1.f1 x.f1.f2, ?_, ?_, fun h => h⟩
    · simp only [spec_l27Entry.f, r0]; exact Ev_t (by simp) (Ev_b h2 (Ev_t rfl (Ev_b v1 (Ev_n rfl))))
    · simp only [impl_validEntry.f]; exact Ev_b h1 (Ev_t rfl (Ev_b (Ev_c v2) (Ev_n rfl)))
def Sta (m : List Ent) : Prop := m.length ≤ 24 ∧ (∀ (i : Nat) (hi : i + 1 < m.length), Go.Lib.compareBytes (fcE (m[i]'(by omega))) (fcE m[i + 1]) < 0) ∧ ∀ y ∈ m, vVen y.f1.f0.toList y.f1.f1 y.f1.f2 = true
theorem state_ev (m : List Ent) (hl : (m.length : Int) ≤ 1048576) : ∃ b, Ev (fun k => spec_l27State.f k m) b ∧ Ev (fun k => impl_ValidState.f k m) b ∧ (b = true → Sta m) := by
  have go : ∀ (d i : Nat), i + d = m.length → ∃ b, Ev (fun k => spec_l27State.l0 k m i) b ∧ Ev (fun k => impl_ValidState.l0 k m m (m.length : Int) i) b ∧ (b = true → m.length ≤ 24 ∧ (∀ (j : Nat), i ≤ j → 0 < j → ∀ (hj : j < m.length), Go.Lib.compareBytes (fcE (m[j - 1]'(by omega))) (fcE m[j]) < 0) ∧ ∀ (j : Nat), i ≤ j → ∀ (hj : j < m.length), vVen m[j].f1.f0.toList m[j].f1.f1 m[j].f1.f2 = true) := by
    intro d
    induction d with
    | zero =>
      intro i h1
      refine ⟨decide ((m.length : Int) ≤ 24), Ev_suc ?_, Ev_suc ?_, fun h => ⟨by have := of_decide_eq_true h; omega, fun j h2 _ hj => by omega, fun j h2 hj => by omega⟩⟩
      · simp only [spec_l27State.l0]; exact Ev_f (by omega) (Ev_n rfl)
      · simp only [impl_ValidState.l0]; exact Ev_f (by omega) (Ev_n rfl)
    | succ d ih =>
      intro i h1
      have hi : i < m.length := by omega
      obtain ⟨v, v1, v2, v3⟩ := entry_ev m[i]
      cases v with
      | false =>
        refine ⟨false, Ev_suc ?_, Ev_suc ?_, fun h => by cases h⟩
        · simp only [spec_l27State.l0]
          refine Ev_t (by omega) (Ev_t (by omega) ?_)
          rw [rdi_Entry m i hi]
          exact Ev_b v1 (Ev_f (by decide) (Ev_n rfl))
        · simp only [impl_ValidState.l0]
          refine Ev_t (by omega) (Ev_t (by omega) (Ev_t (by omega) ?_))
          rw [rdi_Entry m i hi]
          exact Ev_b v2 (Ev_f (by decide) (Ev_n rfl))
      | true =>
        obtain ⟨b, b1, b2, b3⟩ := ih (i + 1) (by omega)
        by_cases h0 : i = 0
        · refine ⟨b, Ev_suc ?_, Ev_suc ?_, fun h => ?_⟩
          · simp only [spec_l27State.l0]
            refine Ev_t (by omega) (Ev_t (by omega) ?_)
            rw [rdi_Entry m i hi, wr64s i (by omega)]
            exact Ev_b v1 (Ev_t rfl (Ev_f (by omega) b1))
          · simp only [impl_ValidState.l0]
            refine Ev_t (by omega) (Ev_t (by omega) (Ev_t (by omega) ?_))
            rw [rdi_Entry m i hi, wr64s i (by omega)]
            exact Ev_b v2 (Ev_t rfl (Ev_f (by omega) b2))
          · obtain ⟨c1, c2, c3⟩ := b3 h
            refine ⟨c1, fun j h2 h3 hj => c2 j (by omega) h3 hj, fun j h2 hj => ?_⟩
            rcases Nat.lt_or_eq_of_le h2 with g | g
            · exact c3 j (by omega) hj
            · subst g; exact v3 rfl
        · have e : wrap64 ((i : Int) - 1) = ((i - 1 : Nat) : Int) := by rw [wr64 (by omega) (by omega)]; omega
          by_cases hc : Op.bytesLess ((m[i - 1]'(by omega)).f0.toList) (m[i].f0.toList) = true
          · refine ⟨b, Ev_suc ?_, Ev_suc ?_, fun h => ?_⟩
            · simp only [spec_l27State.l0]
              refine Ev_t (by omega) (Ev_t (by omega) ?_)
              rw [e, rdi_Entry m i hi, rdi_Entry m (i - 1) (by omega), wr64s i (by omega)]
              exact Ev_b v1 (Ev_t rfl (Ev_t (by omega) (Ev_t (by omega) (Ev_t (by omega) (Ev_t hc b1)))))
            · simp only [impl_ValidState.l0]
              refine Ev_t (by omega) (Ev_t (by omega) (Ev_t (by omega) ?_))
              rw [e, rdi_Entry m i hi, rdi_Entry m (i - 1) (by omega), wr64s i (by omega)]
              exact Ev_b v2 (Ev_t rfl (Ev_t (by omega) (Ev_t (by omega) (Ev_t (by omega) (Ev_t hc b2)))))
            · obtain ⟨c1, c2, c3⟩ := b3 h
              refine ⟨c1, fun j h2 h3 hj => ?_, fun j h2 hj => ?_⟩
              · rcases Nat.lt_or_eq_of_le h2 with g | g
                · exact c2 j (by omega) h3 hj
                · subst g
                  have := (less_iff _ _).1 hc
                  simpa only [fcE, Go.ByteArray.toList_eq] using this
              · rcases Nat.lt_or_eq_of_le h2 with g | g
                · exact c3 j (by omega) hj
                · subst g; exact v3 rfl
          · refine ⟨false, Ev_suc ?_, Ev_suc ?_, fun h => by cases h⟩
            · simp only [spec_l27State.l0]
              refine Ev_t (by omega) (Ev_t (by omega) ?_)
              rw [e, rdi_Entry m i hi, rdi_Entry m (i - 1) (by omega), wr64s i (by omega)]
              exact Ev_b v1 (Ev_t rfl (Ev_t (by omega) (Ev_t (by omega) (Ev_t (by omega) (Ev_f hc (Ev_n rfl))))))
            · simp only [impl_ValidState.l0]
              refine Ev_t (by omega) (Ev_t (by omega) (Ev_t (by omega) ?_))
              rw [e, rdi_Entry m i hi, rdi_Entry m (i - 1) (by omega), wr64s i (by omega)]
              exact Ev_b v2 (Ev_t rfl (Ev_t (by omega) (Ev_t (by omega) (Ev_t (by omega) (Ev_f hc (Ev_n rfl))))))
  obtain ⟨b, b1, b2, b3⟩ := go m.length 0 (by omega)
  refine ⟨b, by simp only [spec_l27State.f]; exact b1, by simp only [impl_ValidState.f]; exact b2, fun h => ?_⟩
  obtain ⟨c1, c2, c3⟩ := b3 h
  refine ⟨c1, fun i hi => c2 (i + 1) (by omega) (by omega) hi, fun y hy => ?_⟩
  obtain ⟨j, hj, rfl⟩ := List.mem_iff_getElem.1 hy
  exact c3 j (by omega) hj
theorem note_ev (x : ByteArray) (hx : (x.size : Int) ≤ 1048576) : ∃ b, Ev (fun k => spec_l27Note.f k x) b ∧ Ev (fun k => impl_validNote.f k x) b := by
  have go : ∀ (d i : Nat), i + d = x.size → ∃ b, Ev (fun k => spec_l27Note.l0 k x i) b ∧ Ev (fun k => impl_validNote.l0 k x i) b := by
    intro d
    induction d with
    | zero =>
      intro i h1
      refine ⟨decide ((x.size : Int) ≤ 20), Ev_suc ?_, Ev_suc ?_⟩
      · simp only [spec_l27Note.l0]; exact Ev_f (by omega) (Ev_n rfl)
      · simp only [impl_validNote.l0]; exact Ev_f (by omega) (Ev_n rfl)
    | succ d ih =>
      intro i h1
      by_cases c1 : bt x i < 32
      · refine ⟨false, Ev_suc ?_, Ev_suc ?_⟩
        · simp only [spec_l27Note.l0]; exact Ev_t (by omega) (Ev_t (by omega) (Ev_t c1 (Ev_n rfl)))
        · simp only [impl_validNote.l0]; exact Ev_t (by omega) (Ev_t (by omega) (Ev_t c1 (Ev_n rfl)))
      · by_cases c2 : bt x i > 126
        · refine ⟨false, Ev_suc ?_, Ev_suc ?_⟩
          · simp only [spec_l27Note.l0]; exact Ev_t (by omega) (Ev_t (by omega) (Ev_f c1 (Ev_t c2 (Ev_n rfl))))
          · simp only [impl_validNote.l0]; exact Ev_t (by omega) (Ev_t (by omega) (Ev_f c1 (Ev_t c2 (Ev_n rfl))))
        · obtain ⟨b, b1, b2⟩ := ih (i + 1) (by omega)
          refine ⟨b, Ev_suc ?_, Ev_suc ?_⟩
          · simp only [spec_l27Note.l0]; rw [wr64s i (by omega)]; exact Ev_t (by omega) (Ev_t (by omega) (Ev_f c1 (Ev_f c2 b1)))
          · simp only [impl_validNote.l0]; rw [wr64s i (by omega)]; exact Ev_t (by omega) (Ev_t (by omega) (Ev_f c1 (Ev_f c2 b2)))
  obtain ⟨b, b1, b2⟩ := go x.size 0 (by omega)
  exact ⟨b, by simp only [spec_l27Note.f]; exact b1, by simp only [impl_validNote.f]; exact b2⟩
def Prj (m : List Ver) : Prop := m.length ≤ 16 ∧ ∀ (i : Nat) (hi : i < m.length), m[i].f0 = (i : Int) + 1 ∧ 0 ≤ m[i].f1 ∧ m[i].f1 ≤ i ∧ Sta m[i].f3
theorem project_ev (m : List Ver) (hl : (m.length : Int) ≤ 1048576) (hn : ∀ y ∈ m, (y.f2.size : Int) ≤ 1048576 ∧ (y.f3.length : Int) ≤ 1048576) : ∃ b, Ev (fun k => spec_l27Ok.f k m) b ∧ Ev (fun k => impl_ValidProject.f k m) b ∧ (b = true → Prj m) := by
  have go : ∀ (d i : Nat), i + d = m.length → ∃ b, Ev (fun k => spec_l27Ok.l0 k m i) b ∧ Ev (fun k => impl_ValidProject.l0 k m m (m.length : Int) i) b ∧ (b = true → m.length ≤ 16 ∧ ∀ (j : Nat), i ≤ j → ∀ (hj : j < m.length), m[j].f0 = (j : Int) + 1 ∧ 0 ≤ m[j].f1 ∧ m[j].f1 ≤ j ∧ Sta m[j].f3) := by
    intro d
    induction d with
    | zero =>
      intro i h1
      refine ⟨decide ((m.length : Int) ≤ 16), Ev_suc ?_, Ev_suc ?_, fun h => ⟨by have := of_decide_eq_true h; omega, fun j h2 hj => by omega⟩⟩
      · simp only [spec_l27Ok.l0]; exact Ev_f (by omega) (Ev_n rfl)
      · simp only [impl_ValidProject.l0]; exact Ev_f (by omega) (Ev_n rfl)
    | succ d ih =>
      intro i h1
      have hi : i < m.length := by omega
      obtain ⟨hs1, hs2⟩ := hn m[i] (List.getElem_mem _)
      have w := wr64s i (by omega)
      have step : ∀ b, Ev (fun n => if m[i].f0 = ((i + 1 : Nat) : Int) then (spec_l00In.f m[i].f1 0 (i : Int)).bind fun t103 => (if t103 = true then ((spec_l27Note.f n m[i].f2).bind fun t104 => (if t104 = true then ((spec_l27State.f n m[i].f3).bind fun t105 => (if t105 = true then (spec_l27Ok.l0 n m ((i + 1 : Nat) : Int)) else (some false))) else (some false))) else (some false)) else some false) b →
          Ev (fun n => if m[i].f0 = ((i + 1 : Nat) : Int) then (impl_within.f m[i].f1 0 (i : Int)).bind fun t103 => (if t103 = true then ((impl_validNote.f n m[i].f2).bind fun t104 => (if t104 = true then ((impl_ValidState.f n m[i].f3).bind fun t105 => (if t105 = true then (impl_ValidProject.l0 n m m (m.length : Int) ((i + 1 : Nat) : Int)) else (some false))) else (some false))) else (some false)) else some false) b →
          Ev (fun k => spec_l27Ok.l0 k m i) b ∧ Ev (fun k => impl_ValidProject.l0 k m m (m.length : Int) i) b := by
        intro b q1 q2
        constructor
        · refine Ev_suc ?_
          simp only [spec_l27Ok.l0]
          refine Ev_t (by omega) (Ev_t (by omega) ?_)
          rw [show rd_T79 m (i : Int) = m[i] from rdi_Version m i hi, w]
          exact q1
        · refine Ev_suc ?_
          simp only [impl_ValidProject.l0]
          refine Ev_t (by omega) (Ev_t (by omega) (Ev_t (by omega) ?_))
          rw [show rd_T79 m (i : Int) = m[i] from rdi_Version m i hi, w]
          exact q2
      by_cases c0 : m[i].f0 = ((i + 1 : Nat) : Int)
      case neg =>
        obtain ⟨s1, s2⟩ := step false (Ev_f c0 (Ev_n rfl)) (Ev_f c0 (Ev_n rfl))
        exact ⟨false, s1, s2, fun h => by cases h⟩
      have i1 := in_f m[i].f1 0 (i : Int)
      have i2 := within_f m[i].f1 0 (i : Int)
      by_cases c1 : (decide ((0 : Int) ≤ m[i].f1) && decide (m[i].f1 ≤ (i : Int))) = true
      case neg =>
        have c1' : (decide ((0 : Int) ≤ m[i].f1) && decide (m[i].f1 ≤ (i : Int))) = false := by simpa using c1
        rw [c1'] at i1 i2
        obtain ⟨s1, s2⟩ := step false (Ev_t c0 (Ev_b (Ev_c i1) (Ev_f (by decide) (Ev_n rfl)))) (Ev_t c0 (Ev_b (Ev_c i2) (Ev_f (by decide) (Ev_n rfl))))
        exact ⟨false, s1, s2, fun h => by cases h⟩
      rw [c1] at i1 i2
      simp only [Bool.and_eq_true, decide_eq_true_eq] at c1
      obtain ⟨nb, n1, n2⟩ := note_ev m[i].f2 hs1
      cases nb with
      | false =>
        obtain ⟨s1, s2⟩ := step false (Ev_t c0 (Ev_b (Ev_c i1) (Ev_t rfl (Ev_b n1 (Ev_f (by decide) (Ev_n rfl)))))) (Ev_t c0 (Ev_b (Ev_c i2) (Ev_t rfl (Ev_b n2 (Ev_f (by decide) (Ev_n rfl))))))
        exact ⟨false, s1, s2, fun h => by cases h⟩
      | true =>
        obtain ⟨sb, t1, t2, t3⟩ := state_ev m[i].f3 hs2
        cases sb with
        | false =>
          obtain ⟨s1, s2⟩ := step false (Ev_t c0 (Ev_b (Ev_c i1) (Ev_t rfl (Ev_b n1 (Ev_t rfl (Ev_b t1 (Ev_f (by decide) (Ev_n rfl)))))))) (Ev_t c0 (Ev_b (Ev_c i2) (Ev_t rfl (Ev_b n2 (Ev_t rfl (Ev_b t2 (Ev_f (by decide) (Ev_n rfl))))))))
          exact ⟨false, s1, s2, fun h => by cases h⟩
        | true =>
          obtain ⟨b, b1, b2, b3⟩ := ih (i + 1) (by omega)
          obtain ⟨s1, s2⟩ := step b (Ev_t c0 (Ev_b (Ev_c i1) (Ev_t rfl (Ev_b n1 (Ev_t rfl (Ev_b t1 (Ev_t rfl b1))))))) (Ev_t c0 (Ev_b (Ev_c i2) (Ev_t rfl (Ev_b n2 (Ev_t rfl (Ev_b t2 (Ev_t rfl b2)))))))
          refine ⟨b, s1, s2, fun h => ?_⟩
          obtain ⟨d1, d2⟩ := b3 h
          refine ⟨d1, fun j h2 hj => ?_⟩
          rcases Nat.lt_or_eq_of_le h2 with g | g
          · exact d2 j (by omega) hj
          · subst g; exact ⟨by omega, c1.1, c1.2, t3 rfl⟩
  obtain ⟨b, b1, b2, b3⟩ := go m.length 0 (by omega)
  refine ⟨b, by simp only [spec_l27Ok.f]; exact b1, by simp only [impl_ValidProject.f]; exact b2, fun h => ?_⟩
  obtain ⟨c1, c2⟩ := b3 h
  exact ⟨c1, fun i hi => c2 i (by omega) hi⟩
end Go.Proofs.Ythnigkbbmhnafaa.Q
namespace Go.Proofs.Ythnigkbbmhnafaa.Q
open Go.RowKit Go.Proofs.YthnigkbbmhnafaaW.PrintWords Go.Proofs.YthnigkbbmhnafaaW.PrintLast Go.Proofs.YthnigkbbmhnafaaW.PrintMore
attribute [local go_sem] max2_int min2_int max_two min_two max_three min_three max_four min_four
set_option linter.unusedVariables false
set_option linter.unusedSimpArgs false
theorem eqA69 (d : Nat) (w : World) (x0 y0 : ByteArray) (x1 y1 : Int) (x2 y2 : Int) :
    (Op.equalIn (d + 2) 69 (.agg #[.string x0, .int .i64 x1, .int .i64 x2]) (.agg #[.string y0, .int .i64 y1, .int .i64 y2])).run Try.prog w = .ok (x0.toList == y0.toList && (x1 == y1 && (x2 == y2))) w := by
  refine eqA_of Try.underlying69 (by kernel_rfl) ?_
  refine eqf_cons (by rfl) (by go_simp; rfl) (by go_simp; rfl) (by go_simp) ?_
  refine eqf_cons (by rfl) (by go_simp; rfl) (by go_simp; rfl) (by go_simp) ?_
  exact eqf_last (by rfl) (by go_simp; rfl) (by go_simp; rfl) (by go_simp)
end Go.Proofs.Ythnigkbbmhnafaa.Q
namespace Go.Proofs.Ythnigkbbmhnafaa.Q
open Go.RowKit Go.Proofs.YthnigkbbmhnafaaW.PrintWords Go.Proofs.YthnigkbbmhnafaaW.PrintLast Go.Proofs.YthnigkbbmhnafaaW.PrintMore
attribute [local go_sem] max2_int min2_int max_two min_two max_three min_three max_four min_four
set_option linter.unusedVariables false
set_option linter.unusedSimpArgs false
theorem eqA71 (d : Nat) (w : World) (x0 y0 : ByteArray) (x1 y1 : ByteArray) (x2 y2 : Int) (x3 y3 : Int) :
    (Op.equalIn (d + 3) 71 (.agg #[.string x0, .string x1, .int .i64 x2, .int .i64 x3]) (.agg #[.string y0, .string y1, .int .i64 y2, .int .i64 y3])).run Try.prog w = .ok (x0.toList == y0.toList && ((x1.toList == y1.toList && (x2 == y2 && (x3 == y3))))) w := by
  refine eqA_of Try.underlying71 (by kernel_rfl) ?_
  refine eqf_cons (by rfl) (by go_simp; rfl) (by go_simp; rfl) (by go_simp) ?_
  exact eqf_last (by rfl) (by go_simp) (by go_simp) (eqA69 (d + 0) w _ _ _ _ _ _)
end Go.Proofs.Ythnigkbbmhnafaa.Q
namespace Go.Proofs.Ythnigkbbmhnafaa.Q
open Go.RowKit Go.Proofs.YthnigkbbmhnafaaW.PrintWords Go.Proofs.YthnigkbbmhnafaaW.PrintLast Go.Proofs.YthnigkbbmhnafaaW.PrintMore
attribute [local go_sem] max2_int min2_int max_two min_two max_three min_three max_four min_four
set_option linter.unusedVariables false
set_option linter.unusedSimpArgs false
def spec_l00Has.l0 : Nat → List Int → Int → Int → Option (Bool)
  | 0, _, _, _ => none
  | k + 1, x0, x1, x5 => if x5 < (x0.length : Int) then (if 0 ≤ x5 then (if (rd x0 x5) = x1 then (some true) else (spec_l00Has.l0 k x0 x1 (wrap64 (x5 + 1)))) else (none)) else (some false)
def spec_l00Has.f (k : Nat) (l0 : List Int) (a1 : Int) : Option (Bool) := spec_l00Has.l0 k l0 a1 0
set_option maxHeartbeats 8000000 in
set_option maxRecDepth 100000 in
theorem spec_l00Has.calls (k : Nat) (A0 : Option Addr) (c0 : Nat) (l0 : List Int) (a1 : Int) (r : Bool) (w : World) (hr0 : Kd.C (Kd.int .i64) w A0 l0.length l0) (hc0 : l0.length ≤ c0) (h : spec_l00Has.f k l0 a1 = some r) :
    Calls Try.prog 101 #[.slice A0 l0.length c0, .int .i64 a1] w fun e w' => e = .returned (.bool r) ∧ Drawn0 w w' := by
  have HR0 := Aside0.mk hr0
  have HC0 := Aside0.mk hc0
  clear hr0 hc0
  have H : (spec_l00Has.l0 k l0 a1 0) = some r := h
  clear h
  have H' := Aside0.mk H
  clear H
  go_enter Try.func101, Try.ntmps101
  go_wp2
  go_loopg [5] k (fun kq v5 w' => ∃ (x5_1 : Int), v5 = .int .i64 x5_1 ∧ Aside0 (spec_l00Has.l0 kq l0 a1 x5_1 = some r) ∧ Aside0 (kq ≤ k) ∧ Drawn0 w w')
  case atStart => exact ⟨(0), (by first | rfl | (simp; done) | (simp [*]; done)), H', ⟨Nat.le_refl _⟩, by repeat (first | exact Drawn0.refl _ | apply Drawn0.step)⟩
  case round =>
    clear H'
    try clear c1
    try clear p2
    obtain ⟨x5_1, rfl, HA, HK1, ⟨m1, rfl⟩⟩ := hrel
    cases gk with
    | zero => exact absurd HA.out (by simp [spec_l00Has.l0])
    | succ k1 =>
      have H := HA.out
      clear HA
      simp only [spec_l00Has.l0] at H
      by_cases c3 : x5_1 < (l0.length : Int)
      · rw [if_pos c3] at H
        have c3b0 : decide (x5_1 < (l0.length : Int)) = true := decide_eq_true c3
        clear c3
        by_cases c4 : 0 ≤ x5_1
        · rw [if_pos c4] at H
          have c4b0 : decide (0 ≤ x5_1) = true := decide_eq_true c4
          clear c4
          by_cases c5 : (rd l0 x5_1) = a1
          · rw [if_pos c5] at H
            have c5b0 : ((rd l0 x5_1) == a1) = true := beq_iff_eq.mpr c5
            have c5b1 : ((rd l0 x5_1) != a1) = false := bne_eq_false_iff_eq.mpr c5
            clear c5
            obtain rfl := Option.some.inj H
            have p101 : 0 ≤ (x5_1 : Int) := of_decide_eq_true (by first | (with_reducible assumption) | assumption)
            have q101 : x5_1 < (l0.length : Int) := of_decide_eq_true (by first | (with_reducible assumption) | assumption)
            obtain ⟨ad101, e101, hx101_0⟩ := Kd.at_int HR0.out x5_1 p101 q101
            cases e101
            replace p101 := eq_true p101
            replace q101 := eq_true q101
            go_wp2
            go_ret
            exact ⟨by first | rfl | (simp; done) | (simp [*]; done), by repeat (first | exact Drawn0.refl _ | apply Drawn0.step)⟩
          · rw [if_neg c5] at H
            have c5b0 : ((rd l0 x5_1) == a1) = false := beq_eq_false_iff_ne.mpr c5
            have c5b1 : ((rd l0 x5_1) != a1) = true := bne_iff_ne.mpr c5
            have H' := Aside0.mk H
            clear H
            have p101 : 0 ≤ (x5_1 : Int) := of_decide_eq_true (by first | (with_reducible assumption) | assumption)
            have q101 : x5_1 < (l0.length : Int) := of_decide_eq_true (by first | (with_reducible assumption) | assumption)
            obtain ⟨ad101, e101, hx101_0⟩ := Kd.at_int HR0.out x5_1 p101 q101
            cases e101
            replace p101 := eq_true p101
            replace q101 := eq_true q101
            go_wp2
            go_roundg k1
            case measure => have := HK1.out; omega
            case rel => exact ⟨(wrap64 (x5_1 + 1)), (by first | rfl | (simp; done) | (simp [*]; done)), H', ⟨by have := HK1.out; omega⟩, by repeat (first | exact Drawn0.refl _ | apply Drawn0.step)⟩
        · rw [if_neg c4] at H
          exact absurd H (by simp)
      · rw [if_neg c3] at H
        have c3b0 : decide (x5_1 < (l0.length : Int)) = false := decide_eq_false c3
        clear c3
        obtain rfl := Option.some.inj H
        go_wp2
        go_ret
        exact ⟨by first | rfl | (simp; done) | (simp [*]; done), by repeat (first | exact Drawn0.refl _ | apply Drawn0.step)⟩
end Go.Proofs.Ythnigkbbmhnafaa.Q
namespace Go.Proofs.Ythnigkbbmhnafaa.Q
open Go.RowKit Go.Proofs.YthnigkbbmhnafaaW.PrintWords Go.Proofs.YthnigkbbmhnafaaW.PrintLast Go.Proofs.YthnigkbbmhnafaaW.PrintMore
attribute [local go_sem] max2_int min2_int max_two min_two max_three min_three max_four min_four
set_option linter.unusedVariables false
set_option linter.unusedSimpArgs false
def spec_l27Common.l0 : Nat → List Int → List Int → Int → Option (Int)
  | 0, _, _, _ => none
  | k + 1, x7, x8, x9 => if x9 < (x7.length : Int) then (if 0 ≤ x9 then ((spec_l00Has.f k x8 (rd x7 x9)).bind fun t120 => (if t120 = true then (some (rd x7 x9)) else (spec_l27Common.l0 k x7 x8 (wrap64 (x9 + 1))))) else (none)) else (some 0)
def spec_l27Common.f (k : Nat) (l0 : List (S79)) (a1 : Int) (a2 : Int) : Option (Int) := (some (([a1] : List Int) : List Int)).bind fun y101 => ((spec_l27Above.f k l0 a1).bind fun t104 => (if y101.length + t104.length < 17592186044416 then ((some (([a2] : List Int) : List Int)).bind fun y110 => ((spec_l27Above.f k l0 a2).bind fun t113 => (if y110.length + t113.length < 17592186044416 then (spec_l27Common.l0 k (y101 ++ t104) (y110 ++ t113) 0) else (none)))) else (none)))
set_option maxHeartbeats 8000000 in
set_option maxRecDepth 100000 in
theorem spec_l27Common.calls (k : Nat) (A0 : Option Addr) (c0 : Nat) (l0 : List (S79)) (a1 : Int) (a2 : Int) (r : Int) (w : World) (hr0 : Kd.C k79 w A0 l0.length l0) (hc0 : l0.length ≤ c0) (h : spec_l27Common.f k l0 a1 a2 = some r) :
    Calls Try.prog 72 #[.slice A0 l0.length c0, .int .i64 a1, .int .i64 a2] w fun e w' => e = .returned (.int .i64 r) ∧ Below w.heap.size w w' := by
  have HR0 := Aside0.mk hr0
  have HC0 := Aside0.mk hc0
  clear hr0 hc0
  have HB := Aside0.mk (Below.refl w.heap.size w)
  have H : ((some (([a1] : List Int) : List Int)).bind fun y101 => ((spec_l27Above.f k l0 a1).bind fun t104 => (if y101.length + t104.length < 17592186044416 then ((some (([a2] : List Int) : List Int)).bind fun y110 => ((spec_l27Above.f k l0 a2).bind fun t113 => (if y110.length + t113.length < 17592186044416 then (spec_l27Common.l0 k (y101 ++ t104) (y110 ++ t113) 0) else (none)))) else (none)))) = some r := h
  clear h
  obtain ⟨y101, hy101⟩ : ∃ y_ : List Int, y_ = (([a1] : List Int)) := ⟨_, rfl⟩
  replace H : ((spec_l27Above.f k l0 a1).bind fun t104 => (if y101.length + t104.length < 17592186044416 then ((some (([a2] : List Int) : List Int)).bind fun y110 => ((spec_l27Above.f k l0 a2).bind fun t113 => (if y110.length + t113.length < 17592186044416 then (spec_l27Common.l0 k (y101 ++ t104) (y110 ++ t113) 0) else (none)))) else (none))) = some r := by first | (rw [hy101]; with_reducible exact H) | (have H2_ := (Option.bind_some _ _).symm.trans H; rw [hy101]; with_reducible exact H2_) | (have H2_ := (Option.bind_some _ _).symm.trans H; with_reducible exact H2_) | with_reducible exact H | (rw [hy101]; exact H) | exact H
  have Ny101 := Aside0.mk hy101
  clear hy101
  replace H := Option.bind_eq_some_iff.mp H
  obtain ⟨t104, A40, H⟩ := H
  replace H : (if y101.length + t104.length < 17592186044416 then ((some (([a2] : List Int) : List Int)).bind fun y110 => ((spec_l27Above.f k l0 a2).bind fun t113 => (if y110.length + t113.length < 17592186044416 then (spec_l27Common.l0 k (y101 ++ t104) (y110 ++ t113) 0) else (none)))) else (none)) = some r := H
  have A4 := Aside0.mk A40
  clear A40
  by_cases c5 : y101.length + t104.length < 17592186044416
  · rw [if_pos c5] at H
    have LMc5 := Aside0.mk c5
    clear c5
    obtain ⟨y107, hy107⟩ : ∃ y_ : List Int, y_ = (y101 ++ t104) := ⟨_, rfl⟩
    replace H : ((some (([a2] : List Int) : List Int)).bind fun y110 => ((spec_l27Above.f k l0 a2).bind fun t113 => (if y110.length + t113.length < 17592186044416 then (spec_l27Common.l0 k y107 (y110 ++ t113) 0) else (none)))) = some r := by first | (rw [hy107]; with_reducible exact H) | (have H2_ := (Option.bind_some _ _).symm.trans H; rw [hy107]; with_reducible exact H2_) | (have H2_ := (Option.bind_some _ _).symm.trans H; with_reducible exact H2_) | with_reducible exact H | (rw [hy107]; exact H) | exact H
    have Ny107 := Aside0.mk hy107
    clear hy107
    obtain ⟨y110, hy110⟩ : ∃ y_ : List Int, y_ = (([a2] : List Int)) := ⟨_, rfl⟩
    replace H : ((spec_l27Above.f k l0 a2).bind fun t113 => (if y110.length + t113.length < 17592186044416 then (spec_l27Common.l0 k y107 (y110 ++ t113) 0) else (none))) = some r := by first | (rw [hy110]; with_reducible exact H) | (have H2_ := (Option.bind_some _ _).symm.trans H; rw [hy110]; with_reducible exact H2_) | (have H2_ := (Option.bind_some _ _).symm.trans H; with_reducible exact H2_) | with_reducible exact H | (rw [hy110]; exact H) | exact H
    have Ny110 := Aside0.mk hy110
    clear hy110
    replace H := Option.bind_eq_some_iff.mp H
    obtain ⟨t113, A60, H⟩ := H
    replace H : (if y110.length + t113.length < 17592186044416 then (spec_l27Common.l0 k y107 (y110 ++ t113) 0) else (none)) = some r := H
    have A6 := Aside0.mk A60
    clear A60
    by_cases c7 : y110.length + t113.length < 17592186044416
    · rw [if_pos c7] at H
      have LMc7 := Aside0.mk c7
      clear c7
      obtain ⟨y116, hy116⟩ : ∃ y_ : List Int, y_ = (y110 ++ t113) := ⟨_, rfl⟩
      replace H : (spec_l27Common.l0 k y107 y116 0) = some r := by first | (rw [hy116]; with_reducible exact H) | (have H2_ := (Option.bind_some _ _).symm.trans H; rw [hy116]; with_reducible exact H2_) | (have H2_ := (Option.bind_some _ _).symm.trans H; with_reducible exact H2_) | with_reducible exact H | (rw [hy116]; exact H) | exact H
      have Ny116 := Aside0.mk hy116
      clear hy116
      have H' := Aside0.mk H
      clear H
      go_enter Try.func72, Try.ntmps72
      go_wp2_with (first | ((with_reducible refine gate_dst (N := 11) rfl ?_); refine Kd.R_lit (Kd.int .i64) _ 2 ?hg (N := 11) ?hd (xs := ([a1] : List Int)) (inner := [.int .i64 a1]) (ok := fun _ => True) (okp := fun _ => True) ?hr ?hp (fun _ hk => hk) trivial (Below.refl _ _) (Nat.le_refl _) (by simp) ?_; (case hd => rfl); (case hg => rfl); (case hr => first | (go_simp; done) | (go_simp; rfl)); (case hp => exact (Reps.one (show Kd.M (Kd.int .i64) _ _ _ a1 [.int .i64 a1] from rfl) (Reps.none _ _))); intro v102 w8 ho9 hb hg_ hnew_; clear hg_ hnew_; (first | rw [← Ny101.out] at ho9 | (simp only [Int.reduceToNat] at ho9; rw [← Ny101.out] at ho9)); have n0_ := Aside0.mk (Kd.R_lower ho9 (below_size (by repeat (first | (with_reducible first | exact HB.out | apply below_alloc | apply pw_below_drewN | apply below_drew1) | exact HB.out)))); have n1_ := Aside0.mk (below_step (by repeat (first | (with_reducible first | exact HB.out | apply below_alloc | apply pw_below_drewN | apply below_drew1) | exact HB.out)) hb); clear HB; have HO103 := n0_; have HB := n1_; clear n0_ n1_; clear hb ho9) | ((with_reducible refine gate_callee (f := 77) rfl ?_); refine goesL_ (some 14) rfl rfl Try.func77 (by kernel_rfl) rfl #[.slice A0 l0.length c0, .int .i64 a1] rfl (by (try simp only [List.map_toArray, List.map_cons, List.map_nil]); first | done | rfl | (simp only [List.length_drop, List.length_take]; rfl)) ?_; (with_reducible refine (spec_l27Above.calls k _ _ l0 a1 t104 _ ?side1 ?side2 A4.out).mono ?_); (case side1 => repeat (first | exact (Kd.C_below HR0.out HB.out) | (with_reducible refine Kd.C_alloc ?_ _) | (with_reducible refine Kd.C_drewN ?_ _) | (with_reducible refine Kd.C_drew ?_))); (case side2 => exact HC0.out); rintro e w10 ⟨v105, rfl, ho0, hb⟩; refine ⟨_, rfl, ?_⟩; have n0_ := Aside0.mk (Kd.R_elder' (by (with_reducible repeat (first | apply Kd.R_alloc | apply Kd.R_drewN | apply Kd.R_drew)); exact HO103.out) (Kd.R_base ho0) hb); have n1_ := Aside0.mk (Kd.R_lower (Kd.R_new' ho0 (Kd.R_lt (by (with_reducible repeat (first | apply Kd.R_alloc | apply Kd.R_drewN | apply Kd.R_drew)); exact HO103.out))) (below_size (by repeat (first | (with_reducible first | exact HB.out | apply below_alloc | apply pw_below_drewN | apply below_drew1) | exact HB.out)))); have n2_ := Aside0.mk (below_step (by repeat (first | (with_reducible first | exact HB.out | apply below_alloc | apply pw_below_drewN | apply below_drew1) | exact HB.out)) hb); clear HO103; clear HB; have HO103 := n0_; have HO106 := n1_; have HB := n2_; clear n0_ n1_ n2_; (try clear hb); (try clear hb2); (try clear hk); (try clear hi); (try clear ho0); obtain ⟨Ao12, co12, eo12⟩ := Kd.R_slice HO106.out; subst eo12) | ((with_reducible refine gate_builtin (b := .append) (xs := #[.tmp 11, .tmp 14]) rfl ?_); at_builtin; refine Kd.R_append_rows (Kd.int .i64) (w0 := w) w.heap.size rfl (.tmp 11) (.tmp 14) 47 2 (.int .i64 0) 8 rfl Try.underlying47 info2 rfl (by decide) (by omega) v102 y101 t104 _ _ _ (fun k_ => some k_ ≠ (.slice Ao12 t104.length co12 : Value).ownBlock) (fun _ => False) rfl rfl ?aO ?aR (fun _ _ h => h) (fun _ h => h.elim) ?aF ?aB ?aS ?aL ?_; (case aR => repeat (first | exact (Kd.R_reads' HO106.out).2.2 | (with_reducible refine Kd.C_alloc ?_ _) | (with_reducible refine Kd.C_drewN ?_ _) | (with_reducible refine Kd.C_drew ?_))); (case aB => exact (by repeat (first | (with_reducible first | exact HB.out | apply below_alloc | apply pw_below_drewN | apply below_drew1) | exact HB.out))); (case aF => exact (fun k_ hk => Kd.fresh' (Kd.R_lt (by (with_reducible repeat (first | apply Kd.R_alloc | apply Kd.R_drewN | apply Kd.R_drew)); exact HO106.out)) k_ hk)); (case aO => exact (by (with_reducible repeat (first | apply Kd.R_alloc | apply Kd.R_drewN | apply Kd.R_drew)); exact Kd.R_mono HO103.out (fun _ hk => hk.2))); (case aS => exact (below_size (by repeat (first | (with_reducible first | exact HB.out | apply below_alloc | apply pw_below_drewN | apply below_drew1) | exact HB.out)))); (case aL => have := LMc5.out; omega); intro v108 w11 ho hb hg hat; rw [← Ny107.out] at ho; have n0_ := Aside0.mk (Kd.R_after (ok := (fun _ => True)) (by (with_reducible repeat (first | apply Kd.R_alloc | apply Kd.R_drewN | apply Kd.R_drew)); exact HO106.out) hg hat); have n1_ := Aside0.mk (hb); have n2_ := Aside0.mk (ho); clear HO106; clear HB; clear HO103; have HO106 := n0_; have HB := n1_; have HO109 := n2_; clear n0_ n1_ n2_; clear ho hb hg hat) | ((with_reducible refine gate_dst (N := 17) rfl ?_); refine Kd.R_lit (Kd.int .i64) _ 2 ?hg (N := 17) ?hd (xs := ([a2] : List Int)) (inner := [.int .i64 a2]) (ok := fun _ => True) (okp := fun _ => True) ?hr ?hp (fun _ hk => hk) trivial (Below.refl _ _) (Nat.le_refl _) (by simp) ?_; (case hd => rfl); (case hg => rfl); (case hr => first | (go_simp; done) | (go_simp; rfl)); (case hp => exact (Reps.one (show Kd.M (Kd.int .i64) _ _ _ a2 [.int .i64 a2] from rfl) (Reps.none _ _))); intro v111 w13 ho14 hb hg_ hnew_; clear hg_ hnew_; (first | rw [← Ny110.out] at ho14 | (simp only [Int.reduceToNat] at ho14; rw [← Ny110.out] at ho14)); have n0_ := Aside0.mk (Kd.R_elder' (by (with_reducible repeat (first | apply Kd.R_alloc | apply Kd.R_drewN | apply Kd.R_drew)); exact HO106.out) (Kd.R_base ho14) hb); have n1_ := Aside0.mk (Kd.R_elder' (by (with_reducible repeat (first | apply Kd.R_alloc | apply Kd.R_drewN | apply Kd.R_drew)); exact HO109.out) (Kd.R_base ho14) hb); have n2_ := Aside0.mk (Kd.R_lower (Kd.R_new' (Kd.R_new' ho14 (Kd.R_lt (by (with_reducible repeat (first | apply Kd.R_alloc | apply Kd.R_drewN | apply Kd.R_drew)); exact HO106.out))) (Kd.R_lt (by (with_reducible repeat (first | apply Kd.R_alloc | apply Kd.R_drewN | apply Kd.R_drew)); exact HO109.out))) (below_size (by repeat (first | (with_reducible first | exact HB.out | apply below_alloc | apply pw_below_drewN | apply below_drew1) | exact HB.out)))); have n3_ := Aside0.mk (below_step (by repeat (first | (with_reducible first | exact HB.out | apply below_alloc | apply pw_below_drewN | apply below_drew1) | exact HB.out)) hb); clear HO106; clear HO109; clear HB; have HO106 := n0_; have HO109 := n1_; have HO112 := n2_; have HB := n3_; clear n0_ n1_ n2_ n3_; clear hb ho14) | ((with_reducible refine gate_callee (f := 77) rfl ?_); refine goesL_ (some 20) rfl rfl Try.func77 (by kernel_rfl) rfl #[.slice A0 l0.length c0, .int .i64 a2] rfl (by (try simp only [List.map_toArray, List.map_cons, List.map_nil]); first | done | rfl | (simp only [List.length_drop, List.length_take]; rfl)) ?_; (with_reducible refine (spec_l27Above.calls k _ _ l0 a2 t113 _ ?side1 ?side2 A6.out).mono ?_); (case side1 => repeat (first | exact (Kd.C_below HR0.out HB.out) | (with_reducible refine Kd.C_alloc ?_ _) | (with_reducible refine Kd.C_drewN ?_ _) | (with_reducible refine Kd.C_drew ?_))); (case side2 => exact HC0.out); rintro e w15 ⟨v114, rfl, ho0, hb⟩; refine ⟨_, rfl, ?_⟩; have n0_ := Aside0.mk (Kd.R_elder' (by (with_reducible repeat (first | apply Kd.R_alloc | apply Kd.R_drewN | apply Kd.R_drew)); exact HO106.out) (Kd.R_base ho0) hb); have n1_ := Aside0.mk (Kd.R_elder' (by (with_reducible repeat (first | apply Kd.R_alloc | apply Kd.R_drewN | apply Kd.R_drew)); exact HO109.out) (Kd.R_base ho0) hb); have n2_ := Aside0.mk (Kd.R_elder' (by (with_reducible repeat (first | apply Kd.R_alloc | apply Kd.R_drewN | apply Kd.R_drew)); exact HO112.out) (Kd.R_base ho0) hb); have n3_ := Aside0.mk (Kd.R_lower (Kd.R_new' (Kd.R_new' (Kd.R_new' ho0 (Kd.R_lt (by (with_reducible repeat (first | apply Kd.R_alloc | apply Kd.R_drewN | apply Kd.R_drew)); exact HO106.out))) (Kd.R_lt (by (with_reducible repeat (first | apply Kd.R_alloc | apply Kd.R_drewN | apply Kd.R_drew)); exact HO109.out))) (Kd.R_lt (by (with_reducible repeat (first | apply Kd.R_alloc | apply Kd.R_drewN | apply Kd.R_drew)); exact HO112.out))) (below_size (by repeat (first | (with_reducible first | exact HB.out | apply below_alloc | apply pw_below_drewN | apply below_drew1) | exact HB.out)))); have n4_ := Aside0.mk (below_step (by repeat (first | (with_reducible first | exact HB.out | apply below_alloc | apply pw_below_drewN | apply below_drew1) | exact HB.out)) hb); clear HO106; clear HO109; clear HO112; clear HB; have HO106 := n0_; have HO109 := n1_; have HO112 := n2_; have HO115 := n3_; have HB := n4_; clear n0_ n1_ n2_ n3_ n4_; (try clear hb); (try clear hb2); (try clear hk); (try clear hi); (try clear ho0); obtain ⟨Ao17, co17, eo17⟩ := Kd.R_slice HO115.out; subst eo17) | ((with_reducible refine gate_builtin (b := .append) (xs := #[.tmp 17, .tmp 20]) rfl ?_); at_builtin; refine Kd.R_append_rows (Kd.int .i64) (w0 := w) w.heap.size rfl (.tmp 17) (.tmp 20) 47 2 (.int .i64 0) 8 rfl Try.underlying47 info2 rfl (by decide) (by omega) v111 y110 t113 _ _ _ (fun k_ => some k_ ≠ (.slice Ao12 t104.length co12 : Value).ownBlock ∧ some k_ ≠ (v108 : Value).ownBlock ∧ some k_ ≠ (.slice Ao17 t113.length co17 : Value).ownBlock) (fun _ => False) rfl rfl ?aO ?aR (fun _ _ h => h) (fun _ h => h.elim) ?aF ?aB ?aS ?aL ?_; (case aR => repeat (first | exact (Kd.R_reads' HO115.out).2.2 | (with_reducible refine Kd.C_alloc ?_ _) | (with_reducible refine Kd.C_drewN ?_ _) | (with_reducible refine Kd.C_drew ?_))); (case aB => exact (by repeat (first | (with_reducible first | exact HB.out | apply below_alloc | apply pw_below_drewN | apply below_drew1) | exact HB.out))); (case aF => exact (fun k_ hk => ⟨Kd.fresh' (Kd.R_lt (by (with_reducible repeat (first | apply Kd.R_alloc | apply Kd.R_drewN | apply Kd.R_drew)); exact HO106.out)) k_ hk, Kd.fresh' (Kd.R_lt (by (with_reducible repeat (first | apply Kd.R_alloc | apply Kd.R_drewN | apply Kd.R_drew)); exact HO109.out)) k_ hk, Kd.fresh' (Kd.R_lt (by (with_reducible repeat (first | apply Kd.R_alloc | apply Kd.R_drewN | apply Kd.R_drew)); exact HO115.out)) k_ hk⟩)); (case aO => exact (by (with_reducible repeat (first | apply Kd.R_alloc | apply Kd.R_drewN | apply Kd.R_drew)); exact Kd.R_mono HO112.out (fun _ hk => ⟨hk.1.1.2, ⟨hk.1.2, hk.2⟩⟩))); (case aS => exact (below_size (by repeat (first | (with_reducible first | exact HB.out | apply below_alloc | apply pw_below_drewN | apply below_drew1) | exact HB.out)))); (case aL => have := LMc7.out; omega); intro v117 w16 ho hb hg hat; rw [← Ny116.out] at ho; have n0_ := Aside0.mk (Kd.R_after (ok := (fun k_ => some k_ ≠ (v108 : Value).ownBlock ∧ some k_ ≠ (.slice Ao17 t113.length co17 : Value).ownBlock)) (by (with_reducible repeat (first | apply Kd.R_alloc | apply Kd.R_drewN | apply Kd.R_drew)); exact Kd.R_mono HO106.out (fun _ hk => ⟨⟨hk.1.1.2, hk.2⟩, hk.1.2⟩)) hg hat); have n1_ := Aside0.mk (Kd.R_after (ok := (fun k_ => some k_ ≠ (.slice Ao12 t104.length co12 : Value).ownBlock ∧ some k_ ≠ (.slice Ao17 t113.length co17 : Value).ownBlock)) (by (with_reducible repeat (first | apply Kd.R_alloc | apply Kd.R_drewN | apply Kd.R_drew)); exact Kd.R_mono HO109.out (fun _ hk => ⟨⟨hk.1.1, hk.2⟩, hk.1.2⟩)) hg hat); have n2_ := Aside0.mk (Kd.R_after (ok := (fun k_ => some k_ ≠ (.slice Ao12 t104.length co12 : Value).ownBlock ∧ some k_ ≠ (v108 : Value).ownBlock)) (by (with_reducible repeat (first | apply Kd.R_alloc | apply Kd.R_drewN | apply Kd.R_drew)); exact Kd.R_mono HO115.out (fun _ hk => ⟨⟨hk.1.1.2, hk.1.2⟩, hk.2⟩)) hg hat); have n3_ := Aside0.mk (hb); have n4_ := Aside0.mk (ho); clear HO106; clear HO109; clear HO115; clear HB; clear HO112; have HO106 := n0_; have HO109 := n1_; have HO115 := n2_; have HB := n3_; have HO118 := n4_; clear n0_ n1_ n2_ n3_ n4_; clear ho hb hg hat))
      go_loopg [9] k (fun kq v9 w' => ∃ (x9_1 : Int), v9 = .int .i64 x9_1 ∧ Aside0 (spec_l27Common.l0 kq y107 y116 x9_1 = some r) ∧ Aside0 (kq ≤ k) ∧ Aside0 (Kd.R (Kd.int .i64) 2 w' w.heap.size (fun k_ => some k_ ≠ (v117 : Value).ownBlock) v108 y107) ∧ Aside0 (Kd.R (Kd.int .i64) 2 w' w.heap.size (fun k_ => some k_ ≠ (v108 : Value).ownBlock) v117 y116) ∧ Aside0 (Below w.heap.size w w'))
      case atStart => exact ⟨(0), (by first | rfl | (simp; done) | (simp [*]; done)), H', ⟨Nat.le_refl _⟩, ⟨by (with_reducible repeat (first | apply Kd.R_alloc | apply Kd.R_drewN | apply Kd.R_drew)); exact Kd.R_mono HO109.out (fun _ hk => hk.2)⟩, ⟨by (with_reducible repeat (first | apply Kd.R_alloc | apply Kd.R_drewN | apply Kd.R_drew)); exact Kd.R_mono HO118.out (fun _ hk => hk.2.1)⟩, ⟨by repeat (first | (with_reducible first | exact HB.out | apply below_alloc | apply pw_below_drewN | apply below_drew1) | exact HB.out)⟩⟩
      case round =>
        clear H'
        try clear p2
        try clear c5
        try clear c7
        obtain ⟨x9_1, rfl, HA, HK1, HO_7, HO_8, HB⟩ := hrel
        cases gk with
        | zero => exact absurd HA.out (by simp [spec_l27Common.l0])
        | succ k1 =>
          have H := HA.out
          clear HA
          simp only [spec_l27Common.l0] at H
          by_cases c18 : x9_1 < (y107.length : Int)
          · rw [if_pos c18] at H
            have c18b0 : decide (x9_1 < (y107.length : Int)) = true := decide_eq_true c18
            clear c18
            by_cases c19 : 0 ≤ x9_1
            · rw [if_pos c19] at H
              have c19b0 : decide (0 ≤ x9_1) = true := decide_eq_true c19
              clear c19
              replace H := Option.bind_eq_some_iff.mp H
              obtain ⟨t120, A200, H⟩ := H
              replace H : (if t120 = true then (some (rd y107 x9_1)) else (spec_l27Common.l0 k1 y107 y116 (wrap64 (x9_1 + 1)))) = some r := H
              have A20 := Aside0.mk A200
              clear A200
              have HC21 := Aside0.mk H
              clear H
              obtain ⟨Ao22, co22, eo22⟩ := Kd.R_slice HO_7.out
              subst eo22
              have p119 : 0 ≤ (x9_1 : Int) := of_decide_eq_true (by first | (with_reducible assumption) | assumption)
              have q119 : x9_1 < (y107.length : Int) := of_decide_eq_true (by first | (with_reducible assumption) | assumption)
              obtain ⟨ad119, e119, hx119_0⟩ := Kd.at_int (Kd.R_reads' HO_7.out).2.2 x9_1 p119 q119
              cases e119
              replace p119 := eq_true p119
              replace q119 := eq_true q119
              obtain ⟨Ao23, co23, eo23⟩ := Kd.R_slice HO_8.out
              subst eo23
              go_upto_if 33 with (first | ((with_reducible refine gate_callee (f := 101) rfl ?_); refine goesL_ (some 33) rfl rfl Try.func101 (by kernel_rfl) rfl #[.slice Ao23 y116.length co23, .int .i64 (rd y107 x9_1)] rfl (by (try simp only [List.map_toArray, List.map_cons, List.map_nil]); first | done | rfl | (simp only [List.length_drop, List.length_take]; rfl)) ?_; (with_reducible refine (spec_l00Has.calls k1 _ _ y116 (rd y107 x9_1) t120 _ ?side1 ?side2 A20.out).mono ?_); (case side1 => repeat (first | exact (Kd.R_reads' HO_8.out).2.2 | (with_reducible refine Kd.C_alloc ?_ _) | (with_reducible refine Kd.C_drewN ?_ _) | (with_reducible refine Kd.C_drew ?_))); (case side2 => exact (Kd.R_reads' HO_8.out).2.1); rintro e w' ⟨rfl, ⟨nd, rfl⟩⟩; refine ⟨_, rfl, ?_⟩; (try (rw [drewN_self wr]; generalize hq_ : World.drewN wr _ = wr; have n0_ : Aside0 (Kd.R (Kd.int .i64) 2 wr w.heap.size (fun k_ => some k_ ≠ (.slice Ao23 y116.length co23 : Value).ownBlock) (.slice (some ad119) y107.length co22) y107) := ⟨by rw [← hq_]; exact (by (with_reducible repeat (first | apply Kd.R_alloc | apply Kd.R_drewN | apply Kd.R_drew)); exact HO_7.out)⟩; have n1_ : Aside0 (Kd.R (Kd.int .i64) 2 wr w.heap.size (fun k_ => some k_ ≠ (.slice (some ad119) y107.length co22 : Value).ownBlock) (.slice Ao23 y116.length co23) y116) := ⟨by rw [← hq_]; exact (by (with_reducible repeat (first | apply Kd.R_alloc | apply Kd.R_drewN | apply Kd.R_drew)); exact HO_8.out)⟩; have n2_ : Aside0 (Below w.heap.size w wr) := ⟨by rw [← hq_]; exact (by repeat (first | (with_reducible first | exact HB.out | apply below_alloc | apply pw_below_drewN | apply below_drew1) | exact HB.out))⟩; clear HO_7 HO_8 HB hq_; have HO_7 := n0_; have HO_8 := n1_; have HB := n2_; clear n0_ n1_ n2_))))
              (try simp only [Act.put, List.setIfInBounds_toArray, List.set_cons_zero, List.set_cons_succ])
              have H := HC21.out
              clear HC21
              by_cases c24 : t120 = true
              · subst c24
                have H1 : (some (rd y107 x9_1)) = some r := by rw [if_pos rfl] at H; exact H
                clear H
                have H := H1
                clear H1
                obtain rfl := Option.some.inj H
                have p121 : 0 ≤ (x9_1 : Int) := of_decide_eq_true (by first | (with_reducible assumption) | assumption)
                have q121 : x9_1 < (y107.length : Int) := of_decide_eq_true (by first | (with_reducible assumption) | assumption)
                obtain ⟨ad121, e121, hx121_0⟩ := Kd.at_int (Kd.R_reads' HO_7.out).2.2 x9_1 p121 q121
                obtain rfl : ad119 = ad121 := (by injection e121)
                replace p121 := eq_true p121
                replace q121 := eq_true q121
                go_wp2
                go_ret
                exact ⟨by first | rfl | (simp [errW_none, errW_some] <;> rfl) | (simp [*, errW_none, errW_some] <;> rfl), by repeat (first | (with_reducible first | exact HB.out | apply below_alloc | apply pw_below_drewN | apply below_drew1) | exact HB.out)⟩
              · replace c24 := Bool.eq_false_iff.mpr c24
                subst c24
                have H1 : (spec_l27Common.l0 k1 y107 y116 (wrap64 (x9_1 + 1))) = some r := by rw [if_neg (show ¬ (false = true) by decide)] at H; exact H
                clear H
                have H := H1
                clear H1
                have H' := Aside0.mk H
                clear H
                go_wp2
                go_roundg k1
                case measure => have := HK1.out; omega
                case rel => exact ⟨(wrap64 (x9_1 + 1)), (by first | rfl | (simp; done) | (simp [*]; done)), H', ⟨by have := HK1.out; omega⟩, ⟨by (with_reducible repeat (first | apply Kd.R_alloc | apply Kd.R_drewN | apply Kd.R_drew)); exact HO_7.out⟩, ⟨by (with_reducible repeat (first | apply Kd.R_alloc | apply Kd.R_drewN | apply Kd.R_drew)); exact HO_8.out⟩, ⟨by repeat (first | (with_reducible first | exact HB.out | apply below_alloc | apply pw_below_drewN | apply below_drew1) | exact HB.out)⟩⟩
            · rw [if_neg c19] at H
              exact absurd H (by simp)
          · rw [if_neg c18] at H
            have c18b0 : decide (x9_1 < (y107.length : Int)) = false := decide_eq_false c18
            clear c18
            obtain rfl := Option.some.inj H
            obtain ⟨Ao25, co25, eo25⟩ := Kd.R_slice HO_7.out
            subst eo25
            go_wp2
            go_ret
            exact ⟨by first | rfl | (simp [errW_none, errW_some] <;> rfl) | (simp [*, errW_none, errW_some] <;> rfl), by repeat (first | (with_reducible first | exact HB.out | apply below_alloc | apply pw_below_drewN | apply below_drew1) | exact HB.out)⟩
    · rw [if_neg c7] at H
      exact absurd H (by simp)
  · rw [if_neg c5] at H
    exact absurd H (by simp)
end Go.Proofs.Ythnigkbbmhnafaa.Q
namespace Go.Proofs.Ythnigkbbmhnafaa.Q
open Go.RowKit Go.Proofs.YthnigkbbmhnafaaW.PrintWords Go.Proofs.YthnigkbbmhnafaaW.PrintLast Go.Proofs.YthnigkbbmhnafaaW.PrintMore
attribute [local go_sem] max2_int min2_int max_two min_two max_three min_three max_four min_four
set_option linter.unusedVariables false
set_option linter.unusedSimpArgs false
def slices_Index_int64_int64.l0 : Nat → List Int → Int → Int → Int → Option (Int)
  | 0, _, _, _, _ => none
  | k + 1, x0, x1, x7, x8 => if x8 < x7 then (if 0 ≤ x8 then (if x8 < (x0.length : Int) then (if x1 = (rd x0 x8) then (some x8) else (slices_Index_int64_int64.l0 k x0 x1 x7 (wrap64 (x8 + 1)))) else (none)) else (none)) else (some (-1))
def slices_Index_int64_int64.f (k : Nat) (l0 : List Int) (a1 : Int) : Option (Int) := slices_Index_int64_int64.l0 k l0 a1 (l0.length : Int) 0
set_option maxHeartbeats 8000000 in
set_option maxRecDepth 100000 in
theorem slices_Index_int64_int64.calls (k : Nat) (A0 : Option Addr) (c0 : Nat) (l0 : List Int) (a1 : Int) (r : Int) (w : World) (hr0 : Kd.C (Kd.int .i64) w A0 l0.length l0) (hc0 : l0.length ≤ c0) (h : slices_Index_int64_int64.f k l0 a1 = some r) :
    Calls Try.prog 113 #[.slice A0 l0.length c0, .int .i64 a1] w fun e w' => e = .returned (.int .i64 r) ∧ Drawn0 w w' := by
  have HR0 := Aside0.mk hr0
  have HC0 := Aside0.mk hc0
  clear hr0 hc0
  have H : (slices_Index_int64_int64.l0 k l0 a1 (l0.length : Int) 0) = some r := h
  clear h
  have H' := Aside0.mk H
  clear H
  go_enter Try.func113, Try.ntmps113
  go_wp2
  go_loopg [8] k (fun kq v8 w' => ∃ (x8_1 : Int), v8 = .int .i64 x8_1 ∧ Aside0 (slices_Index_int64_int64.l0 kq l0 a1 (l0.length : Int) x8_1 = some r) ∧ Aside0 (kq ≤ k) ∧ Drawn0 w w')
  case atStart => exact ⟨(0), (by first | rfl | (simp; done) | (simp [*]; done)), H', ⟨Nat.le_refl _⟩, by repeat (first | exact Drawn0.refl _ | apply Drawn0.step)⟩
  case round =>
    clear H'
    try clear c1
    try clear p2
    obtain ⟨x8_1, rfl, HA, HK1, ⟨m1, rfl⟩⟩ := hrel
    cases gk with
    | zero => exact absurd HA.out (by simp [slices_Index_int64_int64.l0])
    | succ k1 =>
      have H := HA.out
      clear HA
      simp only [slices_Index_int64_int64.l0] at H
      by_cases c3 : x8_1 < (l0.length : Int)
      · rw [if_pos c3] at H
        have c3b0 : decide (x8_1 < (l0.length : Int)) = true := decide_eq_true c3
        clear c3
        by_cases c4 : 0 ≤ x8_1
        · rw [if_pos c4] at H
          have c4b0 : decide (0 ≤ x8_1) = true := decide_eq_true c4
          clear c4
          by_cases c5 : x8_1 < (l0.length : Int)
          · rw [if_pos c5] at H
            have c5b0 : decide (x8_1 < (l0.length : Int)) = true := decide_eq_true c5
            clear c5
            by_cases c6 : a1 = (rd l0 x8_1)
            · rw [if_pos c6] at H
              have c6b0 : (a1 == (rd l0 x8_1)) = true := beq_iff_eq.mpr c6
              have c6b1 : (a1 != (rd l0 x8_1)) = false := bne_eq_false_iff_eq.mpr c6
              clear c6
              obtain rfl := Option.some.inj H
              have p101 : 0 ≤ (x8_1 : Int) := of_decide_eq_true (by first | (with_reducible assumption) | assumption)
              have q101 : x8_1 < (l0.length : Int) := of_decide_eq_true (by first | (with_reducible assumption) | assumption)
              obtain ⟨ad101, e101, hx101_0⟩ := Kd.at_int HR0.out x8_1 p101 q101
              cases e101
              replace p101 := eq_true p101
              replace q101 := eq_true q101
              go_wp2
              go_ret
              exact ⟨by first | rfl | (simp; done) | (simp [*]; done), by repeat (first | exact Drawn0.refl _ | apply Drawn0.step)⟩
            · rw [if_neg c6] at H
              have c6b0 : (a1 == (rd l0 x8_1)) = false := beq_eq_false_iff_ne.mpr c6
              have c6b1 : (a1 != (rd l0 x8_1)) = true := bne_iff_ne.mpr c6
              have H' := Aside0.mk H
              clear H
              have p101 : 0 ≤ (x8_1 : Int) := of_decide_eq_true (by first | (with_reducible assumption) | assumption)
              have q101 : x8_1 < (l0.length : Int) := of_decide_eq_true (by first | (with_reducible assumption) | assumption)
              obtain ⟨ad101, e101, hx101_0⟩ := Kd.at_int HR0.out x8_1 p101 q101
              cases e101
              replace p101 := eq_true p101
              replace q101 := eq_true q101
              go_wp2
              go_roundg k1
              case measure => have := HK1.out; omega
              case rel => exact ⟨(wrap64 (x8_1 + 1)), (by first | rfl | (simp; done) | (simp [*]; done)), H', ⟨by have := HK1.out; omega⟩, by repeat (first | exact Drawn0.refl _ | apply Drawn0.step)⟩
          · rw [if_neg c5] at H
            exact absurd H (by simp)
        · rw [if_neg c4] at H
          exact absurd H (by simp)
      · rw [if_neg c3] at H
        have c3b0 : decide (x8_1 < (l0.length : Int)) = false := decide_eq_false c3
        clear c3
        obtain rfl := Option.some.inj H
        go_wp2
        go_ret
        exact ⟨by first | rfl | (simp; done) | (simp [*]; done), by repeat (first | exact Drawn0.refl _ | apply Drawn0.step)⟩
end Go.Proofs.Ythnigkbbmhnafaa.Q
namespace Go.Proofs.Ythnigkbbmhnafaa.Q
open Go.RowKit Go.Proofs.YthnigkbbmhnafaaW.PrintWords Go.Proofs.YthnigkbbmhnafaaW.PrintLast Go.Proofs.YthnigkbbmhnafaaW.PrintMore
attribute [local go_sem] max2_int min2_int max_two min_two max_three min_three max_four min_four
set_option linter.unusedVariables false
set_option linter.unusedSimpArgs false
def slices_Contains_int64_int64.f (k : Nat) (l0 : List Int) (a1 : Int) : Option (Bool) := (slices_Index_int64_int64.f k l0 a1).bind fun t101 => (some (decide (t101 ≥ 0)))
set_option maxHeartbeats 8000000 in
set_option maxRecDepth 100000 in
theorem slices_Contains_int64_int64.calls (k : Nat) (A0 : Option Addr) (c0 : Nat) (l0 : List Int) (a1 : Int) (r : Bool) (w : World) (hr0 : Kd.C (Kd.int .i64) w A0 l0.length l0) (hc0 : l0.length ≤ c0) (h : slices_Contains_int64_int64.f k l0 a1 = some r) :
    Calls Try.prog 102 #[.slice A0 l0.length c0, .int .i64 a1] w fun e w' => e = .returned (.bool r) ∧ Drawn0 w w' := by
  have HR0 := Aside0.mk hr0
  have HC0 := Aside0.mk hc0
  clear hr0 hc0
  have H : ((slices_Index_int64_int64.f k l0 a1).bind fun t101 => (some (decide (t101 ≥ 0)))) = some r := h
  clear h
  replace H := Option.bind_eq_some_iff.mp H
  obtain ⟨t101, A30, H⟩ := H
  replace H : (some (decide (t101 ≥ 0))) = some r := H
  have A3 := Aside0.mk A30
  clear A30
  obtain rfl := Option.some.inj H
  go_enter Try.func102, Try.ntmps102
  go_wp2_with (first | ((with_reducible refine gate_callee (f := 113) rfl ?_); refine goesL_ (some 7) rfl rfl Try.func113 (by kernel_rfl) rfl #[.slice A0 l0.length c0, .int .i64 a1] rfl (by (try simp only [List.map_toArray, List.map_cons, List.map_nil]); first | done | rfl | (simp only [List.length_drop, List.length_take]; rfl)) ?_; (with_reducible refine (slices_Index_int64_int64.calls k _ _ l0 a1 t101 _ ?side1 ?side2 A3.out).mono ?_); (case side1 => repeat (first | exact HR0.out | (with_reducible refine Kd.C_alloc ?_ _) | (with_reducible refine Kd.C_drewN ?_ _) | (with_reducible refine Kd.C_drew ?_))); (case side2 => exact HC0.out); rintro e w' ⟨rfl, ⟨nd, rfl⟩⟩; refine ⟨_, rfl, ?_⟩))
  go_ret
  exact ⟨by first | rfl | (simp; done) | (simp [*]; done), by repeat (first | exact Drawn0.refl _ | apply Drawn0.step)⟩
end Go.Proofs.Ythnigkbbmhnafaa.Q
namespace Go.Proofs.Ythnigkbbmhnafaa.Q
open Go.RowKit Go.Proofs.YthnigkbbmhnafaaW.PrintWords Go.Proofs.YthnigkbbmhnafaaW.PrintLast Go.Proofs.YthnigkbbmhnafaaW.PrintMore
attribute [local go_sem] max2_int min2_int max_two min_two max_three min_three max_four min_four
set_option linter.unusedVariables false
set_option linter.unusedSimpArgs false
def impl_commonAncestor.l0 : Nat → List (S79) → List Int → Int → Option (Int)
  | 0, _, _, _ => none
  | k + 1, x0, x7, x8 => if x8 > 0 then ((slices_Contains_int64_int64.f k x7 x8).bind fun t107 => (if t107 = true then (some x8) else (if 0 ≤ (wrap64 (x8 - 1)) then (if (wrap64 (x8 - 1)) < (x0.length : Int) then (impl_commonAncestor.l0 k x0 x7 ((rd_T79 x0 (wrap64 (x8 - 1))).f1)) else (none)) else (none)))) else (some 0)
def impl_commonAncestor.f (k : Nat) (l0 : List (S79)) (a1 : Int) (a2 : Int) : Option (Int) := (impl_ancestors.f k l0 a2).bind fun t101 => (if t101.length < 17592186044416 then (impl_commonAncestor.l0 k l0 (t101 ++ [a2]) a1) else (none))
set_option maxHeartbeats 8000000 in
set_option maxRecDepth 100000 in
theorem impl_commonAncestor.calls (k : Nat) (A0 : Option Addr) (c0 : Nat) (l0 : List (S79)) (a1 : Int) (a2 : Int) (r : Int) (w : World) (hr0 : Kd.C k79 w A0 l0.length l0) (hc0 : l0.length ≤ c0) (h : impl_commonAncestor.f k l0 a1 a2 = some r) :
    Calls Try.prog 74 #[.slice A0 l0.length c0, .int .i64 a1, .int .i64 a2] w fun e w' => e = .returned (.int .i64 r) ∧ Below w.heap.size w w' := by
  have HR0 := Aside0.mk hr0
  have HC0 := Aside0.mk hc0
  clear hr0 hc0
  have HB := Aside0.mk (Below.refl w.heap.size w)
  have H : ((impl_ancestors.f k l0 a2).bind fun t101 => (if t101.length < 17592186044416 then (impl_commonAncestor.l0 k l0 (t101 ++ [a2]) a1) else (none))) = some r := h
  clear h
  replace H := Option.bind_eq_some_iff.mp H
  obtain ⟨t101, A40, H⟩ := H
  replace H : (if t101.length < 17592186044416 then (impl_commonAncestor.l0 k l0 (t101 ++ [a2]) a1) else (none)) = some r := H
  have A4 := Aside0.mk A40
  clear A40
  by_cases c5 : t101.length < 17592186044416
  · rw [if_pos c5] at H
    have LMc5 := Aside0.mk c5
    clear c5
    obtain ⟨y104, hy104⟩ : ∃ y_ : List Int, y_ = (t101 ++ [a2]) := ⟨_, rfl⟩
    replace H : (impl_commonAncestor.l0 k l0 y104 a1) = some r := by first | (rw [hy104]; with_reducible exact H) | (have H2_ := (Option.bind_some _ _).symm.trans H; rw [hy104]; with_reducible exact H2_) | (have H2_ := (Option.bind_some _ _).symm.trans H; with_reducible exact H2_) | with_reducible exact H | (rw [hy104]; exact H) | exact H
    have Ny104 := Aside0.mk hy104
    clear hy104
    have H' := Aside0.mk H
    clear H
    go_enter Try.func74, Try.ntmps74
    go_wp2_with (first | ((with_reducible refine gate_callee (f := 78) rfl ?_); refine goesL_ (some 11) rfl rfl Try.func78 (by kernel_rfl) rfl #[.slice A0 l0.length c0, .int .i64 a2] rfl (by (try simp only [List.map_toArray, List.map_cons, List.map_nil]); first | done | rfl | (simp only [List.length_drop, List.length_take]; rfl)) ?_; (with_reducible refine (impl_ancestors.calls k _ _ l0 a2 t101 _ ?side1 ?side2 A4.out).mono ?_); (case side1 => repeat (first | exact HR0.out | (with_reducible refine Kd.C_alloc ?_ _) | (with_reducible refine Kd.C_drewN ?_ _) | (with_reducible refine Kd.C_drew ?_))); (case side2 => exact HC0.out); rintro e w6 ⟨v102, rfl, ho0, hb⟩; refine ⟨_, rfl, ?_⟩; have n0_ := Aside0.mk (Kd.R_lower ho0 (below_size (by repeat (first | (with_reducible first | exact HB.out | apply below_alloc | apply pw_below_drewN | apply below_drew1) | exact HB.out)))); have n1_ := Aside0.mk (below_step (by repeat (first | (with_reducible first | exact HB.out | apply below_alloc | apply pw_below_drewN | apply below_drew1) | exact HB.out)) hb); clear HB; have HO103 := n0_; have HB := n1_; clear n0_ n1_; (try clear hb); (try clear hb2); (try clear hk); (try clear hi); (try clear ho0)) | ((with_reducible refine gate_builtin (b := .append) (xs := #[.tmp 11, .tmp 13]) rfl ?_); at_builtin; refine Kd.R_append (Kd.int .i64) (w0 := w) w.heap.size rfl (.tmp 11) (.tmp 13) 47 2 (.int .i64 0) 8 rfl Try.underlying47 info2 rfl (by decide) (by omega) v102 t101 a2 [.int .i64 a2] (fun _ => True) (fun _ => False) rfl rfl ?aP (fun _ hk => hk.elim) ?aF ?aO ?aB ?aS ?aL ?_; (case aP => exact rfl); (case aB => exact (by repeat (first | (with_reducible first | exact HB.out | apply below_alloc | apply pw_below_drewN | apply below_drew1) | exact HB.out))); (case aF => exact (fun _ _ => trivial)); (case aO => exact (by (with_reducible repeat (first | apply Kd.R_alloc | apply Kd.R_drewN | apply Kd.R_drew)); exact HO103.out)); (case aS => exact (below_size (by repeat (first | (with_reducible first | exact HB.out | apply below_alloc | apply pw_below_drewN | apply below_drew1) | exact HB.out)))); (case aL => have := LMc5.out; omega); intro v105 w7 ho hb hg hat; rw [← Ny104.out] at ho; have n0_ := Aside0.mk (hb); have n1_ := Aside0.mk (ho); clear HB; clear HO103; have HB := n0_; have HO106 := n1_; clear n0_ n1_; clear ho hb hg hat))
    go_loopg [8] k (fun kq v8 w' => ∃ (x8_1 : Int), v8 = .int .i64 x8_1 ∧ Aside0 (impl_commonAncestor.l0 kq l0 y104 x8_1 = some r) ∧ Aside0 (kq ≤ k) ∧ Aside0 (Kd.R (Kd.int .i64) 2 w' w.heap.size (fun _ => True) v105 y104) ∧ Aside0 (Below w.heap.size w w'))
    case atStart => exact ⟨(a1), (by first | rfl | (simp; done) | (simp [*]; done)), H', ⟨Nat.le_refl _⟩, ⟨by (with_reducible repeat (first | apply Kd.R_alloc | apply Kd.R_drewN | apply Kd.R_drew)); exact HO106.out⟩, ⟨by repeat (first | (with_reducible first | exact HB.out | apply below_alloc | apply pw_below_drewN | apply below_drew1) | exact HB.out)⟩⟩
    case round =>
      clear H'
      try clear p2
      try clear c5
      try clear c7
      obtain ⟨x8_1, rfl, HA, HK1, HO_7, HB⟩ := hrel
      cases gk with
      | zero => exact absurd HA.out (by simp [impl_commonAncestor.l0])
      | succ k1 =>
        have H := HA.out
        clear HA
        simp only [impl_commonAncestor.l0] at H
        by_cases c8 : x8_1 > 0
        · rw [if_pos c8] at H
          have c8b0 : decide (0 < x8_1) = true := decide_eq_true c8
          clear c8
          replace H := Option.bind_eq_some_iff.mp H
          obtain ⟨t107, A90, H⟩ := H
          replace H : (if t107 = true then (some x8_1) else (if 0 ≤ (wrap64 (x8_1 - 1)) then (if (wrap64 (x8_1 - 1)) < (l0.length : Int) then (impl_commonAncestor.l0 k1 l0 y104 ((rd_T79 l0 (wrap64 (x8_1 - 1))).f1)) else (none)) else (none))) = some r := H
          have A9 := Aside0.mk A90
          clear A90
          have HC10 := Aside0.mk H
          clear H
          obtain ⟨Ao11, co11, eo11⟩ := Kd.R_slice HO_7.out
          subst eo11
          go_upto_if 26 with (first | ((with_reducible refine gate_callee (f := 102) rfl ?_); refine goesL_ (some 26) rfl rfl Try.func102 (by kernel_rfl) rfl #[.slice Ao11 y104.length co11, .int .i64 x8_1] rfl (by (try simp only [List.map_toArray, List.map_cons, List.map_nil]); first | done | rfl | (simp only [List.length_drop, List.length_take]; rfl)) ?_; (with_reducible refine (slices_Contains_int64_int64.calls k1 _ _ y104 x8_1 t107 _ ?side1 ?side2 A9.out).mono ?_); (case side1 => repeat (first | exact (Kd.R_reads' HO_7.out).2.2 | (with_reducible refine Kd.C_alloc ?_ _) | (with_reducible refine Kd.C_drewN ?_ _) | (with_reducible refine Kd.C_drew ?_))); (case side2 => exact (Kd.R_reads' HO_7.out).2.1); rintro e w' ⟨rfl, ⟨nd, rfl⟩⟩; refine ⟨_, rfl, ?_⟩; (try (rw [drewN_self wr]; generalize hq_ : World.drewN wr _ = wr; have n0_ : Aside0 (Kd.R (Kd.int .i64) 2 wr w.heap.size (fun _ => True) (.slice Ao11 y104.length co11) y104) := ⟨by rw [← hq_]; exact (by (with_reducible repeat (first | apply Kd.R_alloc | apply Kd.R_drewN | apply Kd.R_drew)); exact HO_7.out)⟩; have n1_ : Aside0 (Below w.heap.size w wr) := ⟨by rw [← hq_]; exact (by repeat (first | (with_reducible first | exact HB.out | apply below_alloc | apply pw_below_drewN | apply below_drew1) | exact HB.out))⟩; clear HO_7 HB hq_; have HO_7 := n0_; have HB := n1_; clear n0_ n1_))))
          (try simp only [Act.put, List.setIfInBounds_toArray, List.set_cons_zero, List.set_cons_succ])
          have H := HC10.out
          clear HC10
          by_cases c12 : t107 = true
          · subst c12
            have H1 : (some x8_1) = some r := by rw [if_pos rfl] at H; exact H
            clear H
            have H := H1
            clear H1
            obtain rfl := Option.some.inj H
            go_wp2
            go_ret
            exact ⟨by first | rfl | (simp [errW_none, errW_some] <;> rfl) | (simp [*, errW_none, errW_some] <;> rfl), by repeat (first | (with_reducible first | exact HB.out | apply below_alloc | apply pw_below_drewN | apply below_drew1) | exact HB.out)⟩
          · replace c12 := Bool.eq_false_iff.mpr c12
            subst c12
            have H1 : (if 0 ≤ (wrap64 (x8_1 - 1)) then (if (wrap64 (x8_1 - 1)) < (l0.length : Int) then (impl_commonAncestor.l0 k1 l0 y104 ((rd_T79 l0 (wrap64 (x8_1 - 1))).f1)) else (none)) else (none)) = some r := by rw [if_neg (show ¬ (false = true) by decide)] at H; exact H
            clear H
            have H := H1
            clear H1
            obtain ⟨ji13, hji13⟩ : ∃ j_ : Int, (wrap64 (x8_1 - 1)) = j_ := ⟨_, rfl⟩
            replace H : (if 0 ≤ (ji13) then (if (ji13) < (l0.length : Int) then (impl_commonAncestor.l0 k1 l0 y104 ((rd_T79 l0 (ji13)).f1)) else (none)) else (none)) = some r := by first | (rw [hji13] at H; exact H) | (simp only [hji13] at H ⊢; exact H)
            have hji13w : (IntKind.i64.wrap (x8_1 - 1)) = ji13 := (i64_w _).trans hji13
            by_cases c14 : 0 ≤ (ji13)
            · rw [if_pos c14] at H
              have c14b0 : decide (0 ≤ (ji13)) = true := decide_eq_true c14
              clear c14
              (first | rw [c14b0] | (simp only [i64_w, i32_w]; rw [c14b0]) | (simp only [c14b2, Bool.not_true, Bool.not_false]) | (simp only [c14b1, Bool.not_true, Bool.not_false]) | (simp only [c14b0, Bool.not_true, Bool.not_false]) | skip)
              by_cases c15 : (ji13) < (l0.length : Int)
              · rw [if_pos c15] at H
                have c15b0 : decide ((ji13) < (l0.length : Int)) = true := decide_eq_true c15
                clear c15
                have H' := Aside0.mk H
                clear H
                have p108 : 0 ≤ ((ji13) : Int) := of_decide_eq_true (by first | (with_reducible assumption) | assumption)
                have q108 : (ji13) < (l0.length : Int) := of_decide_eq_true (by first | (with_reducible assumption) | assumption)
                obtain ⟨ad108, A108_3, c108_3, e108, hx108_0, hx108_1, hx108_2, hx108_3, hl108_3, hi108_3⟩ := at_T79 HR0.out (ji13) p108 q108
                cases e108
                replace hx108_0 := (HB.out.cell (World.block_lt_of_cell? w _ hx108_0)).trans hx108_0
                replace hx108_1 := (HB.out.cell (World.block_lt_of_cell? w _ hx108_1)).trans hx108_1
                replace hx108_2 := (HB.out.cell (World.block_lt_of_cell? w _ hx108_2)).trans hx108_2
                replace hx108_3 := (HB.out.cell (World.block_lt_of_cell? w _ hx108_3)).trans hx108_3
                have HR108_3 := Aside0.mk hi108_3
                have HC108_3 := Aside0.mk hl108_3
                clear hi108_3 hl108_3
                replace p108 := eq_true p108
                replace q108 := eq_true q108
                go_wp2
                go_roundg k1
                case measure => have := HK1.out; omega
                case rel => exact ⟨((rd_T79 l0 (ji13)).f1), (by first | rfl | (simp; done) | (simp only [← hji13] <;> (first | rfl | simp)) | (simp [*]; done)), H', ⟨by have := HK1.out; omega⟩, ⟨by (with_reducible repeat (first | apply Kd.R_alloc | apply Kd.R_drewN | apply Kd.R_drew)); exact HO_7.out⟩, ⟨by repeat (first | (with_reducible first | exact HB.out | apply below_alloc | apply pw_below_drewN | apply below_drew1) | exact HB.out)⟩⟩
              · rw [if_neg c15] at H
                exact absurd H (by simp)
            · rw [if_neg c14] at H
              exact absurd H (by simp)
        · rw [if_neg c8] at H
          have c8b0 : decide (0 < x8_1) = false := decide_eq_false c8
          clear c8
          obtain rfl := Option.some.inj H
          go_wp2
          go_ret
          exact ⟨by first | rfl | (simp [errW_none, errW_some] <;> rfl) | (simp [*, errW_none, errW_some] <;> rfl), by repeat (first | (with_reducible first | exact HB.out | apply below_alloc | apply pw_below_drewN | apply below_drew1) | exact HB.out)⟩
  · rw [if_neg c5] at H
    exact absurd H (by simp)
end Go.Proofs.Ythnigkbbmhnafaa.Q
namespace Go.Proofs.Ythnigkbbmhnafaa.Q
open Go.RowKit Go.Proofs.YthnigkbbmhnafaaW.PrintWords Go.Proofs.YthnigkbbmhnafaaW.PrintLast Go.Proofs.YthnigkbbmhnafaaW.PrintMore
theorem rd_nat (l : List Int) (i : Nat) (h : i < l.length) : rd l (i : Int) = l[i] := by unfold rd; exact getD_in l _ i h
theorem has_ev (l : List Int) (hl : (l.length : Int) ≤ 1048576) (x : Int) : Ev (fun k => spec_l00Has.f k l x) (decide (x ∈ l)) := by
  have go : ∀ (d i : Nat), i + d = l.length → Ev (fun k => spec_l00Has.l0 k l x i) (decide (x ∈ l.drop i)) := by
    intro d
    induction d with
    | zero =>
      intro i h
      refine Ev_suc ?_
      simp only [spec_l00Has.l0]
      exact Ev_f (by omega) (Ev_n (by rw [List.drop_of_length_le (by omega)]; simp))
    | succ d ih =>
      intro i h
      refine Ev_suc ?_
      simp only [spec_l00Has.l0]
      rw [rd_nat l i (by omega), wr64s i (by omega), List.drop_eq_getElem_cons (show i < l.length by omega)]
      refine Ev_t (by omega) (Ev_t (by omega) ?_)
      by_cases e : l[i] = x
      · exact Ev_t e (Ev_n (by simp [e]))
      · exact Ev_f e (Ev_at (ih (i + 1) (by omega)) (by rw [decide_eq_decide, List.mem_cons]; exact ⟨.inr, fun h => h.resolve_left (fun q => e q.symm)⟩))
  simp only [spec_l00Has.f]
  exact go l.length 0 (by omega)
theorem contains_ev (l : List Int) (hl : (l.length : Int) ≤ 1048576) (x : Int) : Ev (fun k => slices_Contains_int64_int64.f k l x) (decide (x ∈ l)) := by
  have go : ∀ (d i : Nat), i + d = l.length → ∃ r : Int, Ev (fun k => slices_Index_int64_int64.l0 k l x (l.length : Int) i) r ∧ decide (r ≥ 0) = decide (x ∈ l.drop i) := by
    intro d
    induction d with
    | zero =>
      intro i h
      refine ⟨-1, Ev_suc ?_, ?_⟩
      · simp only [slices_Index_int64_int64.l0]; exact Ev_f (by omega) (Ev_n rfl)
      · rw [List.drop_of_length_le (by omega)]; simp
    | succ d ih =>
      intro i h
      by_cases e : x = l[i]
      · refine ⟨i, Ev_suc ?_, ?_⟩
        · simp only [slices_Index_int64_int64.l0]
          rw [rd_nat l i (by omega)]
          exact Ev_t (by omega) (Ev_t (by omega) (Ev_t (by omega) (Ev_t e (Ev_n rfl))))
        · rw [List.drop_eq_getElem_cons (show i < l.length by omega), decide_eq_decide, List.mem_cons]
          exact ⟨fun _ => .inl e, fun _ => by omega⟩
      · obtain ⟨r, r1, r2⟩ := ih (i + 1) (by omega)
        refine ⟨r, Ev_suc ?_, ?_⟩
        · simp only [slices_Index_int64_int64.l0]
          rw [rd_nat l i (by omega), wr64s i (by omega)]
          exact Ev_t (by omega) (Ev_t (by omega) (Ev_t (by omega) (Ev_f e r1)))
        · rw [r2, List.drop_eq_getElem_cons (show i < l.length by omega), decide_eq_decide, List.mem_cons]
          exact ⟨.inr, fun h => h.resolve_left e⟩
  obtain ⟨r, r1, r2⟩ := go l.length 0 (by omega)
  simp only [slices_Contains_int64_int64.f, slices_Index_int64_int64.f]
  exact Ev_b r1 (Ev_n (by rw [r2, List.drop_zero]))
theorem above_ev (m : List Ver) (hm : Prj m) : ∀ (n a : Nat), a ≤ n → 1 ≤ a → a ≤ m.length → ∃ l : List Int, l.length < a ∧
    (∀ out : List Int, out.length + a ≤ 2000 → Ev (fun k => spec_l27Above.l0 k m (a : Int) out) (out ++ l)) ∧
    (∀ (h : a - 1 < m.length) (out : List Int), out.length + a ≤ 2000 → Ev (fun k => impl_ancestors.l0 k m out (m[a - 1]'h).f1) (out ++ l)) ∧
    (∀ S1 S2 : List Int, S1.length ≤ 1000 → S2.length ≤ 1000 → (∀ x, x ∈ S1 ↔ x ∈ S2) → ∃ r, (∀ pre : List Int, pre.length + a ≤ 2000 → Ev (fun k => spec_l27Common.l0 k (pre ++ (a : Int) :: l) S1 (pre.length : Int)) r) ∧ Ev (fun k => impl_commonAncestor.l0 k m S2 (a : Int)) r) := by
  intro n
  induction n with
  | zero => intro a h1 h2 h3; omega
  | succ n ih =>
    intro a h1 h2 h3
    obtain ⟨hlen, hall⟩ := hm
    have ha : a - 1 < m.length := by omega
    obtain ⟨p0, p1, p2, _⟩ := hall (a - 1) ha
    have ew : wrap64 ((a : Int) - 1) = ((a - 1 : Nat) : Int) := by rw [wr64 (by omega) (by omega)]; omega
    have er : rd_T79 m ((a - 1 : Nat) : Int) = m[a - 1]'ha := rdi_Version m (a - 1) ha
    have first : ∀ (l : List Int) (S1 S2 : List Int), S1.length ≤ 1000 → S2.length ≤ 1000 → (∀ x, x ∈ S1 ↔ x ∈ S2) → ∀ r, ((a : Int) ∈ S1 → r = (a : Int)) →
        (¬ (a : Int) ∈ S1 → (∀ pre : List Int, pre.length + a ≤ 2000 → Ev (fun k => spec_l27Common.l0 k (pre ++ (a : Int) :: l) S1 ((pre.length + 1 : Nat) : Int)) r) ∧ Ev (fun k => impl_commonAncestor.l0 k m S2 (m[a - 1]'ha).f1) r) →
        (∀ pre : List Int, pre.length + a ≤ 2000 → Ev (fun k => spec_l27Common.l0 k (pre ++ (a : Int) :: l) S1 (pre.length : Int)) r) ∧ Ev (fun k => impl_commonAncestor.l0 k m S2 (a : Int)) r := by
      intro l S1 S2 q1 q2 hS r hin hout
      have c2 := contains_ev S2 (by omega) (a : Int)
      constructor
      · intro pre hpre
        have e : rd (pre ++ (a : Int) :: l) (pre.length : Int) = (a : Int) := by unfold rd; exact getD_at pre l _ _ _ rfl
        refine Ev_suc ?_
        simp only [spec_l27Common.l0]
        rw [e, wr64s pre.length (by omega)]
        refine Ev_t (by simp; omega) (Ev_t (by omega) (Ev_b (has_ev S1 (by omega) _) ?_))
        by_cases h : (a : Int) ∈ S1
        · exact Ev_t (by simpa using h) (Ev_n (hin h).symm)
        · exact Ev_f (by simpa using h) ((hout h).1 pre hpre)
      · refine Ev_suc ?_
        simp only [impl_commonAncestor.l0]
        rw [ew, er]
        refine Ev_t (by omega) (Ev_b c2 ?_)
        by_cases h : (a : Int) ∈ S1
        · exact Ev_t (by simpa using (hS _).1 h) (Ev_n (hin h).symm)
        · exact Ev_f (by simpa using fun h' => h ((hS _).2 h')) (Ev_t (by omega) (Ev_t (by omega) (hout h).2))
    by_cases hp : (m[a - 1]'ha).f1 = 0
    · refine ⟨[], by simp; omega, fun out ho => Ev_suc ?_, fun h out ho => Ev_suc ?_, fun S1 S2 q1 q2 hS => ?_⟩
      · simp only [spec_l27Above.l0]
        rw [ew, er, List.append_nil]
        refine Ev_f (by omega) (Ev_t (by omega) (Ev_t (by omega) (Ev_t hp ?_)))
        rw [hp]
        refine Ev_suc ?_
        simp only [spec_l27Above.l0]
        exact Ev_t (by first | exact True.intro | rfl) (Ev_n rfl)
      · simp only [impl_ancestors.l0]
        rw [hp, List.append_nil]
        exact Ev_f (by omega) (Ev_n rfl)
      · refine ⟨if (a : Int) ∈ S1 then (a : Int) else 0, first [] S1 S2 q1 q2 hS _ (fun h => by rw [if_pos h]) (fun h => ?_)⟩
        rw [if_neg h]
        constructor
        · intro pre hpre
          refine Ev_suc ?_
          simp only [spec_l27Common.l0]
          exact Ev_f (by first | (simp; done) | (simp; omega)) (Ev_n rfl)
        · rw [hp]
          refine Ev_suc ?_
          simp only [impl_commonAncestor.l0]
          exact Ev_f (by omega) (Ev_n rfl)
    · obtain ⟨q, hq⟩ := Int.eq_ofNat_of_zero_le p1
      have q1 : 1 ≤ q := by omega
      have q2 : q < a := by omega
      have hq1 : q - 1 < m.length := by omega
      have ew2 : wrap64 ((q : Int) - 1) = ((q - 1 : Nat) : Int) := by rw [wr64 (by omega) (by omega)]; omega
      have er2 : rd_T79 m ((q - 1 : Nat) : Int) = m[q - 1]'hq1 := rdi_Version m (q - 1) hq1
      obtain ⟨l, l1, l3, l4, l5⟩ := ih q (by omega) q1 (by omega)
      refine ⟨(q : Int) :: l, by simp; omega, fun out ho => Ev_suc ?_, fun h out ho => Ev_suc ?_, fun S1 S2 r1 r2 hS => ?_⟩
      · simp only [spec_l27Above.l0]
        rw [ew, er, hq]
        refine Ev_f (by omega) (Ev_t (by omega) (Ev_t (by omega) (Ev_f (by omega) (Ev_t (by omega) ?_))))
        exact Ev_at (l3 (out ++ [(q : Int)]) (by simp; omega)) (by simp)
      · simp only [impl_ancestors.l0]
        rw [hq, ew2, er2]
        refine Ev_t (by omega) (Ev_t (by omega) (Ev_t (by omega) (Ev_t (by omega) ?_)))
        exact Ev_at (l4 hq1 (out ++ [(q : Int)]) (by simp; omega)) (by simp)
      · obtain ⟨r, u1, u2⟩ := l5 S1 S2 r1 r2 hS
        refine ⟨if (a : Int) ∈ S1 then (a : Int) else r, first ((q : Int) :: l) S1 S2 r1 r2 hS _ (fun h => by rw [if_pos h]) (fun h => ?_)⟩
        rw [if_neg h]
        constructor
        · intro pre hpre
          have := u1 (pre ++ [(a : Int)]) (by simp; omega)
          rw [List.append_assoc, List.singleton_append] at this
          simpa using this
        · rw [hq]; exact u2
end Go.Proofs.Ythnigkbbmhnafaa.Q
namespace Go.Proofs.Ythnigkbbmhnafaa.Q
open Go.RowKit Go.Proofs.YthnigkbbmhnafaaW.PrintWords Go.Proofs.YthnigkbbmhnafaaW.PrintLast Go.Proofs.YthnigkbbmhnafaaW.PrintMore
set_option linter.unusedVariables false
theorem rdn_at (a b : List Int) (x : Int) (i : Nat) (h : a.length = i) : rd (a ++ x :: b) (i : Int) = x := by unfold rd; exact getD_at a b _ x i h
theorem eqInt64S_ev' (l : List Int) (hl : (l.length : Int) ≤ 1000000000000) : Ev (fun k => laws_eqInt64S.f k l l) true := by
  have go : ∀ (q p : List Int) (i : Nat), p.length = i → (i : Int) + q.length ≤ 1000000000000 → Ev (fun k => laws_eqInt64S.l0 k (p ++ q) (p ++ q) i) true := by
    intro q
    induction q with
    | nil =>
      intro p i q1 q2
      refine Ev_suc ?_
      simp only [laws_eqInt64S.l0]
      exact Ev_f (by simp; omega) (Ev_n rfl)
    | cons x q ih =>
      intro p i q1 q2
      simp only [List.length_cons] at q2
      refine Ev_suc ?_
      simp only [laws_eqInt64S.l0]
      refine Ev_t (by simp; omega) (Ev_t (by omega) (Ev_t (by simp; omega) (Ev_t True.intro ?_)))
      rw [wr64s i (by omega)]
      have := ih (p ++ [x]) (i + 1) (by simp; omega) (by omega)
      rw [List.append_assoc, List.singleton_append] at this
      exact this
  simp only [laws_eqInt64S.f]
  exact Ev_t True.intro (go l [] 0 rfl (by simpa using hl))
theorem mk_Int64 (l : List Int) (c : Int) (h0 : 0 ≤ c) (h1 : c ≤ 1000000000000) (hl : (l.length : Int) ≤ 1000000000000) : ∃ l', l'.length = l.length ∧ Ev (fun k => laws_markInt64S.f k l c) (c + 1 * l.length, l') ∧ Ev (fun k => laws_heldInt64S.f k l' c) (c + 1 * l.length) := by
  have go : ∀ (q p : List Int) (i : Nat) (c : Int), p.length = i → 0 ≤ c → c + 1 * q.length ≤ 100000000000000000 → (i : Int) + q.length ≤ 1000000000000 → ∃ q', q'.length = q.length ∧ Ev (fun k => laws_markInt64S.l0 k (p ++ q) c i) (c + 1 * q.length, p ++ q') ∧ ∀ r : List Int, r.length = i → Ev (fun k => laws_heldInt64S.l0 k (r ++ q') c i) (c + 1 * q.length) := by
    intro q
    induction q with
    | nil =>
      intro p i c q1 q2 q3 q4
      refine ⟨[], rfl, Ev_suc ?_, fun r hr => Ev_suc ?_⟩
      · simp only [laws_markInt64S.l0]
        exact Ev_f (by simp; omega) (Ev_n (by simp))
      · simp only [laws_heldInt64S.l0]
        exact Ev_f (by simp; omega) (Ev_n (by simp))
    | cons x q ih =>
      intro p i c q1 q2 q3 q4
      simp only [List.length_cons] at q3 q4
      have e0 : wrap64 (c + 1) = c + 1 := (wr64 (by omega) (by omega)).trans (by omega)
      obtain ⟨q', hq, hm, hh⟩ := ih (p ++ [c]) (i + 1) (c + 1) (by simp; omega) (by omega) (by omega) (by omega)
      refine ⟨c :: q', by simp [hq], Ev_suc ?_, fun r hr => Ev_suc ?_⟩
      · simp only [laws_markInt64S.l0, e0, set_at p q _ _ i q1]
        refine Ev_t (by simp; omega) (Ev_t (by omega) ?_)
        rw [wr64s i (by omega)]
        have hm' := hm
        rw [List.append_assoc, List.singleton_append, List.append_assoc, List.singleton_append] at hm'
        exact Ev_at hm' (by simp only [List.length_cons, Prod.mk.injEq, and_true]; omega)
      · simp only [laws_heldInt64S.l0, e0, rdn_at r q' _ i hr]
        refine Ev_t (by simp; omega) (Ev_t (by omega) (Ev_t True.intro ?_))
        rw [wr64s i (by omega)]
        have hh' := hh (r ++ [c]) (by simp; omega)
        rw [List.append_assoc, List.singleton_append] at hh'
        exact Ev_at hh' (by simp only [List.length_cons]; omega)
  obtain ⟨l', e1, e2, e3⟩ := go l [] 0 c rfl h0 (by omega) (by simpa using hl)
  refine ⟨l', e1, ?_, ?_⟩
  · simp only [laws_markInt64S.f]; exact e2
  · simp only [laws_heldInt64S.f]; exact e3 [] rfl
theorem mkv_ev (l : List Ver) (hl : (l.length : Int) ≤ 1048576) (hs : ∀ y ∈ l, (y.f3.length : Int) ≤ 1048576) : ∃ r l', 0 ≤ r ∧ Ev (fun k => laws_markVersionS.f k l 1) (r, l') := by
  have go : ∀ (q p : List Ver) (i : Nat) (c : Int), (∀ y ∈ q, (y.f3.length : Int) ≤ 1048576) → p.length = i → 0 ≤ c → c ≤ 1 + 5000000 * (i : Int) → (i : Int) + q.length ≤ 1048576 → ∃ r l', 0 ≤ r ∧ Ev (fun k => laws_markVersionS.l0 k (p ++ q) c i) (r, l') := by
    intro q
    induction q with
    | nil =>
      intro p i c q0 q1 q2 q3 q4
      refine ⟨c, p ++ [], q2, Ev_suc ?_⟩
      simp only [laws_markVersionS.l0]
      exact Ev_f (by simp; omega) (Ev_n rfl)
    | cons x q ih =>
      intro p i c q0 q1 q2 q3 q4
      simp only [List.length_cons] at q4
      have hx := q0 x (List.mem_cons_self ..)
      have e0 : wrap64 (c + 1) = c + 1 := (wr64 (by omega) (by omega)).trans (by omega)
      have e1 : wrap64 (c + 1 + 1) = c + 2 := (wr64 (by omega) (by omega)).trans (by omega)
      have e2 : wrap64 (c + 2 + 1) = c + 3 := (wr64 (by omega) (by omega)).trans (by omega)
      obtain ⟨t0, ht0⟩ := markText_ev (c + 2) (by omega) (by omega)
      obtain ⟨st, _, hst, _⟩ := mk_Entry x.f3 (c + 3) (by omega) (by omega) (by omega)
      obtain ⟨r, l', hr, he⟩ := ih (p ++ [(⟨c, c + 1, t0, st⟩ : Ver)]) (i + 1) (c + 3 + 4 * x.f3.length) (fun y hy => q0 y (List.mem_cons_of_mem _ hy)) (by simp; omega) (by omega) (by omega) (by omega)
      refine ⟨r, l', hr, Ev_suc ?_⟩
      simp only [laws_markVersionS.l0, e0, e1, e2, set_at p q _ _ i q1, rda_Version p q _ i q1]
      refine Ev_t (by simp; omega) (Ev_b ht0 (Ev_b hst (Ev_t (by omega) ?_)))
      rw [wr64s i (by omega)]
      rw [List.append_assoc, List.singleton_append] at he
      exact he
  simp only [laws_markVersionS.f]
  exact go l [] 0 1 hs rfl (by omega) (by omega) (by simpa using hl)
theorem anc_ev (m : List Ver) (hl : (m.length : Int) ≤ 1048576) (hn : ∀ y ∈ m, (y.f2.size : Int) ≤ 1048576 ∧ (y.f3.length : Int) ≤ 1048576) (a : Int) : ∃ (r0 : List Int) (r1 : Int), (r0.length : Int) ≤ 1048576 ∧ Ev (fun k => spec_AncestorsOf.f k m a) (r0, r1) ∧ Ev (fun k => impl_AncestorsOf.f k m a) (r0, r1) := by
  obtain ⟨ok, e1, e2, hok⟩ := project_ev m hl hn
  have ra : rd [a] 0 = a := rfl
  cases ok with
  | false =>
    refine ⟨[], 1, by simp, ?_, ?_⟩
    · simp only [spec_AncestorsOf.f]; exact Ev_b e1 (Ev_f (by decide) (Ev_n rfl))
    · simp only [impl_AncestorsOf.f]
      refine Ev_b (a := 1) ?_ (Ev_f (by decide) (Ev_n rfl))
      simp only [impl_projectCode.f]
      exact Ev_b e2 (Ev_f (by decide) (Ev_n rfl))
  | true =>
    have hm := hok rfl
    have na : ∀ x, spec_l27Number.f m x = some (decide (1 ≤ x) && decide (x ≤ (m.length : Int))) := fun x => by unfold spec_l27Number.f; rw [in_f]; rfl
    have wa : ∀ x, impl_within.f x 1 (m.length : Int) = some (decide (1 ≤ x) && decide (x ≤ (m.length : Int))) := fun x => within_f x 1 _
    have code : ∀ c, Ev (fun k => impl_projectCode.l0 k m [a] 1 0) c → Ev (fun k => impl_projectCode.f k m [a]) c := fun c h => by
      simp only [impl_projectCode.f]
      exact Ev_b e2 (Ev_t rfl h)
    by_cases ca : (decide (1 ≤ a) && decide (a ≤ (m.length : Int))) = true
    case neg =>
      refine ⟨[], 3, by simp, ?_, ?_⟩
      · simp only [spec_AncestorsOf.f]; exact Ev_b e1 (Ev_t rfl (Ev_b (Ev_c (na a)) (Ev_f ca (Ev_n rfl))))
      · simp only [impl_AncestorsOf.f]
        refine Ev_b (a := 3) (code 3 (Ev_suc ?_)) (Ev_f (by decide) (Ev_n rfl))
        simp only [impl_projectCode.l0, ra]
        exact Ev_t (by decide) (Ev_t (by decide) (Ev_t (by simp) (Ev_b (Ev_c (wa a)) (Ev_f ca (Ev_n rfl)))))
    have ca2 := ca
    simp only [Bool.and_eq_true, decide_eq_true_eq] at ca2
    obtain ⟨u, hu⟩ := Int.eq_ofNat_of_zero_le (show 0 ≤ a by omega)
    have hm2 := hm
    obtain ⟨hlen, _⟩ := hm2
    obtain ⟨l, l1, l2, l3, _⟩ := above_ev m hm u u (Nat.le_refl _) (by omega) (by omega)
    have t1 := l2 [] (by simp; omega)
    rw [List.nil_append] at t1
    refine ⟨l, 0, by omega, ?_, ?_⟩
    · simp only [spec_AncestorsOf.f]
      refine Ev_b e1 (Ev_t rfl (Ev_b (Ev_c (na a)) (Ev_t ca (Ev_b (a := l) ?_ (Ev_n rfl)))))
      simp only [spec_l27Above.f]
      rw [hu]
      exact t1
    · simp only [impl_AncestorsOf.f]
      refine Ev_b (a := 0) (code 0 (Ev_suc ?_)) (Ev_t rfl (Ev_b (a := l) ?_ (Ev_n rfl)))
      · simp only [impl_projectCode.l0, ra]
        refine Ev_t (by decide) (Ev_t (by decide) (Ev_t (by simp) (Ev_b (Ev_c (wa a)) (Ev_t ca (Ev_suc ?_)))))
        rw [show wrap64 ((0 : Int) + 1) = 1 by rw [wr64 (by omega) (by omega)]; rfl]
        simp only [impl_projectCode.l0]
        exact Ev_f (by decide) (Ev_n rfl)
      · simp only [impl_ancestors.f]
        rw [hu]
        have hu1 : u - 1 < m.length := by omega
        have ew : wrap64 ((u : Int) - 1) = ((u - 1 : Nat) : Int) := by rw [wr64 (by omega) (by omega)]; omega
        have er : rd_T79 m ((u - 1 : Nat) : Int) = m[u - 1]'hu1 := rdi_Version m (u - 1) hu1
        rw [ew, er]
        have t3 := l3 hu1 [] (by simp; omega)
        rw [List.nil_append] at t3
        exact Ev_t (by omega) (Ev_t (by omega) t3)
end Go.Proofs.Ythnigkbbmhnafaa.Q
namespace Go.Proofs.Ythnigkbbmhnafaa.Q
open Go.RowKit Go.Proofs.YthnigkbbmhnafaaW.PrintWords Go.Proofs.YthnigkbbmhnafaaW.PrintLast Go.Proofs.YthnigkbbmhnafaaW.PrintMore
set_option linter.unusedVariables false
theorem law_AncestorsOf : laws_FnExactAncestorsOf.Pure := by
  intro x a hx ha
  have hM : maxLen = 9223372036854775807 := by decide
  refine Ev.rounds (r := true) ?_
  simp only [laws_FnExactAncestorsOf.f]
  refine Ev_b (szS_Version x hx.1 hx.2 (1048576) (by omega) (by omega)) ?_
  by_cases cx : ((ZS_Version x : Nat) : Int) ≤ 1048576
  case neg => rw [cut_neg cx]; exact Ev_t (by decide) (Ev_n rfl)
  rw [cut_pos cx]
  refine Ev_f (by omega) ?_
  have nx : (x.length : Int) ≤ 1048576 := by have := (ZS_in_Version x).1; omega
  have bx : ∀ q_ ∈ x, B_Version q_ := fun q_ hq_ => B_of_Version q_ (by have := (ZS_in_Version x).2 q_ hq_; omega)
  have mx : ((x.map conv_Version).length : Int) ≤ 1048576 := by simpa using nx
  have Ex : ∀ q_ ∈ x.map conv_Version, E_Version q_ := fun y hy => by obtain ⟨u, hu, rfl⟩ := List.mem_map.1 hy; exact E_of_Version u (bx u hu)
  have tx := toS_Version x nx bx
  have qx := eqS_Version (x.map conv_Version) mx Ex
  have zx : ∀ q_ ∈ x.map conv_Version, ∃ u ∈ x, conv_Version u = q_ ∧ ((Z_Version u : Nat) : Int) ≤ 1048576 := fun y hy => by obtain ⟨u, hu, e⟩ := List.mem_map.1 hy; exact ⟨u, hu, e, by have := (ZS_in_Version x).2 u hu; omega⟩
  obtain ⟨r0, r1, E0, e1, e2⟩ := anc_ev (x.map conv_Version) mx (fun y hy => by obtain ⟨u_, _, rfl, h_⟩ := zx y hy; unfold Z_Version at h_; have := (ZS_in_Entry u_.f3).1; exact ⟨by show ((u_.f2.size : Nat) : Int) ≤ 1048576; omega, by show (((u_.f3.map conv_Entry).length : Nat) : Int) ≤ 1048576; rw [List.length_map]; omega⟩) a
  have qr0 := eqInt64S_ev' r0 (by omega)
  obtain ⟨Rx, px, hRx, mmx⟩ := mkv_ev (x.map conv_Version) mx (fun u hu => ((show ∀ y ∈ x.map conv_Version, (y.f2.size : Int) ≤ 1048576 ∧ (y.f3.length : Int) ≤ 1048576 from (fun y hy => by obtain ⟨u_, _, rfl, h_⟩ := zx y hy; unfold Z_Version at h_; have := (ZS_in_Entry u_.f3).1; exact ⟨by show ((u_.f2.size : Nat) : Int) ≤ 1048576; omega, by show (((u_.f3.map conv_Entry).length : Nat) : Int) ≤ 1048576; rw [List.length_map]; omega⟩)) u hu).2)
  obtain ⟨pr0, _, mr0, hr0⟩ := mk_Int64 r0 1 (by omega) (by omega) (by omega)
  repeat' (first | ((first | (with_reducible refine Ev_b e1 ?_) | (with_reducible refine Ev_b e2 ?_) | (with_reducible refine Ev_b tx ?_) | (with_reducible refine Ev_b qx ?_) | (with_reducible refine Ev_b qr0 ?_) | (with_reducible refine Ev_b mmx ?_) | (with_reducible refine Ev_b mr0 ?_) | (with_reducible refine Ev_b hr0 ?_)); try dsimp only) | (with_reducible refine Ev_t rfl ?_) | (with_reducible refine Ev_t True.intro ?_) | (refine Ev_f (by omega) ?_) | (refine Ev_t (by omega) ?_) | (refine Ev_f (by simp) ?_) | exact Ev_n rfl | (refine Ev_suc ?_; first | simp only [laws_FnExactAncestorsOf.j0] | simp only [laws_FnExactAncestorsOf.j1] | simp only [laws_FnExactAncestorsOf.j2]))
end Go.Proofs.Ythnigkbbmhnafaa.Q
namespace Go.Proofs.Ythnigkbbmhnafaa.Pure
open Go.Proofs.Ythnigkbbmhnafaa.Q
theorem FnExactAncestorsOf : laws_FnExactAncestorsOf.Pure := law_AncestorsOf
end Go.Proofs.Ythnigkbbmhnafaa.Pure
namespace Go.Proofs.Ythnigkbbmhnafaa.fnExactAncestorsOf
open Go.ChangeShapes Go.WideShapes Go.ChangeAt Go.RowKit Go.Proofs.Ythnigkbbmhnafaa.OPN Go.Proofs.Ythnigkbbmhnafaa.Q Go.Proofs.YthnigkbbmhnafaaW.PrintWords
open Go.ChangeMaps (open_string shut_string)
set_option linter.unusedVariables false
theorem own : ownKnob Try.prog.godebug = none := by kernel_rfl
theorem laidOut : laidOutB Try.prog = true := by kernel_rfl
set_option maxRecDepth 100000 in
theorem lifted (os : Os) (started : os.Started) (H : Type) (enc : TypeId × Value → H) :
    ReturnsInHanded {} Try.checked os 10 .any (Rows.fnExactAncestorsOfSpec.pre6 enc Try.prog Try.f10 Rows.fnExactAncestorsOfRow.domain false) (Rows.fnExactAncestorsOfSpec.post enc Try.prog Try.f10 false true false false) := by
  refine returnsInHanded_of_change_sized (C := Try.checked) own started (by kernel_rfl) Try.func10
    (ChangeSpec.witness6 (enc := enc) (C := Try.checked) false ⟨#[], #[.slice none 0 0, .int .i64 0], []⟩ 8 (by kernel_rfl) (by kernel_rfl) (by kernel_rfl) (by kernel_rfl)) ?_
  intro W base args ds gs before hval0 hW hcnd hsz0 _
  have hval : ∀ (j : Nat) t v, Try.f10.params[j]? = some t → args[j]? = some v → Value.okWide Try.prog W .any base t v := hval0
  have hW' := hW
  obtain ⟨p, q, hA0, hV, rfl, hfz, hnd⟩ := hW
  have hA : DataW.TrodAll enc Try.prog W 0 (fun _ => true) true Try.f10.params.toList args.toList ds p := hA0
  rw [Try.params10] at hA hval
  obtain ⟨v0, vs0, d0, ds0, p0, q0, hargs, rfl, rfl, h0, r0⟩ := trodAll_cons hA
  obtain ⟨v1, vs1, d1, ds1, p1, q1, rfl, rfl, rfl, h1, r1⟩ := trodAll_cons r0
  obtain ⟨rfl, rfl, rfl⟩ := trodAll_nil r1
  obtain rfl : args = #[v0, v1] := by cases args; simp_all
  obtain ⟨rfl, rfl⟩ := trodVars_none hV
  have lt0 : ∀ x ∈ p0, x.block < W.heap.size := by obtain ⟨m, hm⟩ := h0; exact DataW.trod_lt m _ _ _ hm
  have k0 := h0
  obtain ⟨z0, y0, u0, rfl⟩ := okWide_slice Try.underlying30 (hval 0 30 v0 rfl rfl)
  obtain ⟨fu0, hf0⟩ := h0
  obtain ⟨x0, ⟨A0, c0, hcs0, hc0, hr0⟩, w0⟩ := ((opn_slice Try.underlying30 (by kernel_rfl) opn77) : Opn _ _ (Kd.slice 77 k77) _).get rfl hf0
  obtain ⟨rfl, rfl, rfl⟩ : A0 = z0 ∧ x0.length = y0 ∧ c0 = u0 := (fun (h_ : z0 = A0 ∧ y0 = x0.length ∧ u0 = c0) => ⟨h_.1.symm, h_.2.1.symm, h_.2.2.symm⟩) (by simpa [Value.cells] using hcs0)
  obtain ⟨x1, rfl, rfl, rfl, w1⟩ := open_int Try.underlying2 (hval 1 2 v1 rfl rfl) h1
  clear hA0 hval0 hsz0
  obtain ⟨k, hP⟩ := Pure.FnExactAncestorsOf x0 x1 w0 w1
  refine (laws_FnExactAncestorsOf.calls k A0 c0 x0 x1 true W hr0 hc0 hP).mono fun e W' hh => ?_
  obtain ⟨rfl, bel0⟩ := hh
  have bel : Below W.heap.size W W' := bel0
  exact ⟨_, rfl, _, _, _, [], _, [], hW', trodAll_mk1 (shut_bool Try.underlying4 _), (trodAll_cons_mk (Below.trod laidOut (by kernel_rfl) (of_decide_eq_true (by kernel_rfl)) k0 bel lt0) (trodAll_cons_mk (shut_int Try.underlying2 w1) trodAll_mk0)), rfl, bel.frame _, fun h => by cases h⟩
theorem over : Rows.fnExactAncestorsOfRow.holds Try.pinned (OpenSpec.ofChange Rows.fnExactAncestorsOfSpec) :=
  OpenClaim.holds_of_wide 10 Try.f10 rfl rfl rfl rfl rfl rfl rfl ⟨rfl, rfl, rfl, rfl, rfl⟩ rfl rfl rfl rfl rfl (by kernel_rfl) Try.func10 (by kernel_rfl)
    (of_decide_eq_true (by kernel_rfl)) (by unfold Func.isWrapper; first | (rw [if_pos (by decide +kernel)]; kernel_rfl) | (rw [if_neg (by decide +kernel)]; exact ⟨rfl, rfl⟩))
    (fun os started H enc _ => lifted os started H enc)
theorem proved : Rows.FnExactAncestorsOfSaid := over
#print axioms proved
end Go.Proofs.Ythnigkbbmhnafaa.fnExactAncestorsOf
namespace Go.Proofs.Ythnigkbbmhnafaa
theorem fnExactAncestorsOf_holds : Rows.FnExactAncestorsOfSaid := fnExactAncestorsOf.proved
end Go.Proofs.Ythnigkbbmhnafaa
