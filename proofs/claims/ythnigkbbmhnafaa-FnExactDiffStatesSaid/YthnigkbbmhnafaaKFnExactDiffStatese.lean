/- The changes between two states, by the program as by the reference. This text holds the last walks, the plain law and the row. -/
import Derived.Lib.Bytealg
import Derived.Test.YthnigkbbmhnafaaRows
import Derived.WalkKit
import Derived.ProofKit
import Derived.OpenShut
import Derived.ShutString
import Derived.ChangeOld
import Derived.Below
import Derived.SizedLaws
import Derived.Carry
import Derived.Test.YthnigkbbmhnafaaKFnExactDiffStatesa
import Derived.Test.YthnigkbbmhnafaaKFnExactDiffStatesc
import Derived.Test.YthnigkbbmhnafaaKFnExactDiffStatesd
import Derived.Test.YthnigkbbmhnafaaKFnExactDiffStatesb
set_option linter.unusedVariables false
set_option linter.unusedSimpArgs false
namespace Go.Proofs.Ythnigkbbmhnafaa.Q
open Go.RowKit Go.Proofs.YthnigkbbmhnafaaW.PrintWords Go.Proofs.YthnigkbbmhnafaaW.PrintLast Go.Proofs.YthnigkbbmhnafaaW.PrintMore
set_option linter.unusedVariables false
set_option linter.unusedSimpArgs false
def Z_Veneer (x : S66) : Nat := x.f0.size
theorem sz_Veneer (x : S66) (hw : W66 x) (c : Int) (h0 : 0 ≤ c) (h1 : c ≤ 1048576) : Ev (fun k => laws_szVeneer.f (x.f0) (x.f1) (x.f2) c) (cut c (Z_Veneer x)) := by
  have hM : maxLen = 9223372036854775807 := by decide
  unfold W66 at hw
  obtain ⟨w0, w1, w2⟩ := hw
  simp only [laws_szVeneer.f]
  have b0 : x.f0.size ≤ maxLen := w0
  rw [hM] at b0
  have e0 : wrap64 (c - ((x.f0.size : Nat) : Int)) = c - ((x.f0.size : Nat) : Int) := wr64 (by omega) (by omega)
  simp only [e0]
  by_cases g0 : c - ((x.f0.size : Nat) : Int) < 0
  · rw [cut_neg (by unfold Z_Veneer; omega)]; exact Ev_t g0 (Ev_n rfl)
  refine Ev_f g0 ?_
  obtain ⟨c0, hc0⟩ : ∃ z_, z_ = c - ((x.f0.size : Nat) : Int) := ⟨_, rfl⟩
  simp only [← hc0]
  rw [cut_pos (by unfold Z_Veneer; omega)]
  exact Ev_n (by unfold Z_Veneer; omega)
def conv_Veneer (x : S66) : S69 := ⟨x.f0, x.f1, x.f2⟩
def B_Veneer (x : S66) : Prop := True
theorem B_of_Veneer (x : S66) (h : (Z_Veneer x : Int) ≤ 1048576) : B_Veneer x := by
  unfold Z_Veneer at h
  unfold B_Veneer
  trivial
theorem to_Veneer (x : S66) (hb : B_Veneer x) : Ev (fun k => laws_toVeneer.f (x.f0) (x.f1) (x.f2)) ((conv_Veneer x).f0, (conv_Veneer x).f1, (conv_Veneer x).f2) := by
  unfold B_Veneer at hb
  simp only [laws_toVeneer.f]
  exact Ev_n rfl
def E_Veneer (x : S69) : Prop := True
theorem E_of_Veneer (x : S66) (hb : B_Veneer x) : E_Veneer (conv_Veneer x) := by
  unfold B_Veneer at hb
  unfold E_Veneer
  exact trivial
theorem eq_Veneer (x : S69) (he : E_Veneer x) : Ev (fun k => laws_eqVeneer.f (x.f0) (x.f1) (x.f2) (x.f0) (x.f1) (x.f2)) true := by
  unfold E_Veneer at he
  simp only [laws_eqVeneer.f, if_true]
  exact Ev_n rfl
theorem rdl_Entry (l : List S68) (i : Nat) (h : i < l.length) : rd_T68 l (i : Int) = l[i] := by unfold rd_T68; exact getD_in l _ i h
theorem rdi_Entry (l : List S71) (i : Nat) (h : i < l.length) : rd_T71 l (i : Int) = l[i] := by unfold rd_T71; exact getD_in l _ i h
theorem rda_Entry (a b : List S71) (x : S71) (i : Nat) (h : a.length = i) : rd_T71 (a ++ x :: b) (i : Int) = x := by unfold rd_T71; exact getD_at a b _ x i h
def Z_Entry (x : S68) : Nat := x.f0.size + (Z_Veneer x.f1)
def ZS_Entry (l : List S68) : Nat := l.length + (l.map Z_Entry).sum
theorem ZS_in_Entry (l : List S68) : l.length ≤ ZS_Entry l ∧ ∀ y ∈ l, Z_Entry y ≤ ZS_Entry l := ⟨by unfold ZS_Entry; omega, fun y hy => by have := sum_le Z_Entry l y hy; unfold ZS_Entry; omega⟩
theorem sz_Entry (x : S68) (hw : W68 x) (c : Int) (h0 : 0 ≤ c) (h1 : c ≤ 1048576) : Ev (fun k => laws_szEntry.f (x.f0) (x.f1.f0) (x.f1.f1) (x.f1.f2) c) (cut c (Z_Entry x)) := by
  have hM : maxLen = 9223372036854775807 := by decide
  unfold W68 at hw
  obtain ⟨w0, w1⟩ := hw
  simp only [laws_szEntry.f]
  have b0 : x.f0.size ≤ maxLen := w0
  rw [hM] at b0
  have e0 : wrap64 (c - ((x.f0.size : Nat) : Int)) = c - ((x.f0.size : Nat) : Int) := wr64 (by omega) (by omega)
  simp only [e0]
  by_cases g0 : c - ((x.f0.size : Nat) : Int) < 0
  · rw [cut_neg (by unfold Z_Entry; omega)]; exact Ev_t g0 (Ev_n rfl)
  refine Ev_f g0 ?_
  obtain ⟨c0, hc0⟩ : ∃ z_, z_ = c - ((x.f0.size : Nat) : Int) := ⟨_, rfl⟩
  simp only [← hc0]
  refine Ev_b (sz_Veneer x.f1 w1 c0 (by omega) (by omega)) ?_
  by_cases g1 : (((Z_Veneer x.f1) : Nat) : Int) ≤ c0
  case neg => rw [cut_neg g1, cut_neg (by unfold Z_Entry; omega)]; exact Ev_t (by decide) (Ev_n rfl)
  rw [cut_pos g1]
  refine Ev_f (by omega) ?_
  obtain ⟨c1, hc1⟩ : ∃ z_, z_ = c0 - (((Z_Veneer x.f1) : Nat) : Int) := ⟨_, rfl⟩
  simp only [← hc1]
  rw [cut_pos (by unfold Z_Entry; omega)]
  exact Ev_n (by unfold Z_Entry; omega)
theorem szS_Entry (l : List S68) (hl : l.length ≤ maxLen) (hw : ∀ y ∈ l, W68 y) (c : Int) (h0 : 0 ≤ c) (h1 : c ≤ 1048576) : Ev (fun k => laws_szEntryS.f k l c) (cut c (ZS_Entry l)) := by
  have hM : maxLen = 9223372036854775807 := by decide
  rw [hM] at hl
  have go : ∀ (d i : Nat) (c : Int), i + d = l.length → l.length ≤ 1048576 → 0 ≤ c → c ≤ 1048576 → Ev (fun k => laws_szEntryS.l0 k l c i) (cut c (((l.drop i).map Z_Entry).sum : Nat)) := by
    intro d
    induction d with
    | zero =>
      intro i c q1 q2 q3 q4
      refine Ev_suc ?_
      simp only [laws_szEntryS.l0]
      rw [List.drop_of_length_le (by omega), cut_pos (by simpa using q3)]
      exact Ev_f (by omega) (Ev_n (by simp))
    | succ d ih =>
      intro i c q1 q2 q3 q4
      refine Ev_suc ?_
      simp only [laws_szEntryS.l0]
      refine Ev_t (by omega) (Ev_t (by omega) ?_)
      rw [rdl_Entry l i (by omega)]
      refine Ev_b (sz_Entry l[i] (hw _ (List.getElem_mem _)) c q3 q4) ?_
      rw [List.drop_eq_getElem_cons (show i < l.length by omega), List.map_cons, List.sum_cons]
      by_cases g : ((Z_Entry l[i] : Nat) : Int) ≤ c
      case neg => rw [cut_neg g, cut_neg (by omega)]; exact Ev_t (by decide) (Ev_n rfl)
      rw [cut_pos g]
      refine Ev_f (by omega) ?_
      rw [wr64s i (by omega)]
      refine Ev_at (ih (i + 1) _ (by omega) q2 (by omega) (by omega)) ?_
      unfold cut
      split <;> split <;> omega
  simp only [laws_szEntryS.f]
  rw [wr64 (x := c - (l.length : Int)) (by omega) (by omega)]
  by_cases g : c - (l.length : Int) < 0
  · rw [cut_neg (by unfold ZS_Entry; omega)]
    exact Ev_t g (Ev_n rfl)
  · refine Ev_f g (Ev_at (go l.length 0 _ (by omega) (by omega) (by omega) (by omega)) ?_)
    rw [List.drop_zero]
    unfold cut ZS_Entry
    split <;> split <;> omega
def conv_Entry (x : S68) : S71 := ⟨x.f0, (conv_Veneer x.f1)⟩
def B_Entry (x : S68) : Prop := B_Veneer x.f1
theorem B_of_Entry (x : S68) (h : (Z_Entry x : Int) ≤ 1048576) : B_Entry x := by
  unfold Z_Entry at h
  unfold B_Entry
  exact B_of_Veneer x.f1 (by omega)
theorem to_Entry (x : S68) (hb : B_Entry x) : Ev (fun k => laws_toEntry.f (x.f0) (x.f1.f0) (x.f1.f1) (x.f1.f2)) ((conv_Entry x).f0, (conv_Entry x).f1.f0, (conv_Entry x).f1.f1, (conv_Entry x).f1.f2) := by
  unfold B_Entry at hb
  simp only [laws_toEntry.f]
  refine Ev_b (to_Veneer x.f1 hb) ?_
  exact Ev_n rfl
theorem toS_Entry (l : List S68) (hl : (l.length : Int) ≤ 1048576) (hb : ∀ y ∈ l, B_Entry y) : Ev (fun k => laws_toEntryS.f k l) (l.map conv_Entry) := by
  have go : ∀ (d i : Nat) (xs : List S71), i + d = l.length → xs.length = l.length → xs.take i = (l.map conv_Entry).take i → Ev (fun k => laws_toEntryS.l0 k l xs i) (l.map conv_Entry) := by
    intro d
    induction d with
    | zero =>
      intro i xs q1 q2 q3
      refine Ev_suc ?_
      simp only [laws_toEntryS.l0]
      rw [List.take_of_length_le (by omega), List.take_of_length_le (by simp; omega)] at q3
      rw [q3]
      exact Ev_f (by omega) (Ev_n rfl)
    | succ d ih =>
      intro i xs q1 q2 q3
      refine Ev_suc ?_
      simp only [laws_toEntryS.l0]
      refine Ev_t (by omega) (Ev_t (by omega) ?_)
      rw [rdl_Entry l i (by omega)]
      refine Ev_b (to_Entry l[i] (hb _ (List.getElem_mem _))) ?_
      refine Ev_t (by omega) ?_
      rw [wr64s i (by omega), Int.toNat_natCast]
      refine ih (i + 1) _ (by omega) (by rw [List.length_set]; exact q2) ?_
      rw [set_take' _ _ _ (by omega), q3, List.take_succ_eq_append_getElem (by simp; omega)]
      simp [conv_Entry]
  simp only [laws_toEntryS.f]
  refine Ev_t (by omega) (Ev_t (by omega) ?_)
  exact go l.length 0 _ (by omega) (by simp) (by simp)
def E_Entry (x : S71) : Prop := E_Veneer x.f1
theorem E_of_Entry (x : S68) (hb : B_Entry x) : E_Entry (conv_Entry x) := by
  unfold B_Entry at hb
  unfold E_Entry
  exact E_of_Veneer _ hb
theorem eq_Entry (x : S71) (he : E_Entry x) : Ev (fun k => laws_eqEntry.f (x.f0) (x.f1.f0) (x.f1.f1) (x.f1.f2) (x.f0) (x.f1.f0) (x.f1.f1) (x.f1.f2)) true := by
  unfold E_Entry at he
  simp only [laws_eqEntry.f, if_true]
  refine Ev_b (eq_Veneer x.f1 he) ?_
  simp only [if_true]
  exact Ev_n rfl
theorem eqS_Entry (m : List S71) (hl : (m.length : Int) ≤ 1048576) (he : ∀ y ∈ m, E_Entry y) : Ev (fun k => laws_eqEntryS.f k m m) true := by
  have go : ∀ (d i : Nat), i + d = m.length → Ev (fun k => laws_eqEntryS.l0 k m m i) true := by
    intro d
    induction d with
    | zero =>
      intro i q1
      refine Ev_suc ?_
      simp only [laws_eqEntryS.l0]
      exact Ev_f (by omega) (Ev_n rfl)
    | succ d ih =>
      intro i q1
      refine Ev_suc ?_
      simp only [laws_eqEntryS.l0]
      refine Ev_t (by omega) (Ev_t (by omega) (Ev_t (by omega) ?_))
      rw [rdi_Entry m i (by omega)]
      refine Ev_b (eq_Entry m[i] (he _ (List.getElem_mem _))) ?_
      rw [wr64s i (by omega)]
      exact Ev_t rfl (ih (i + 1) (by omega))
  simp only [laws_eqEntryS.f]
  exact Ev_t (by first | trivial | rfl) (go m.length 0 (by omega))
theorem mk_Entry (l : List S71) (c : Int) (h0 : 0 ≤ c) (h1 : c ≤ 1000000000000) (hl : (l.length : Int) ≤ 1000000000000) : ∃ l', l'.length = l.length ∧ Ev (fun k => laws_markEntryS.f k l c) (c + 4 * l.length, l') ∧ Ev (fun k => laws_heldEntryS.f k l' c) (c + 4 * l.length) := by
  have go : ∀ (q p : List S71) (i : Nat) (c : Int), p.length = i → 0 ≤ c → c + 4 * q.length ≤ 100000000000000000 → (i : Int) + q.length ≤ 1000000000000 → ∃ q', q'.length = q.length ∧ Ev (fun k => laws_markEntryS.l0 k (p ++ q) c i) (c + 4 * q.length, p ++ q') ∧ ∀ r : List S71, r.length = i → Ev (fun k => laws_heldEntryS.l0 k (r ++ q') c i) (c + 4 * q.length) := by
    intro q
    induction q with
    | nil =>
      intro p i c q1 q2 q3 q4
      refine ⟨[], rfl, Ev_suc ?_, fun r hr => Ev_suc ?_⟩
      · simp only [laws_markEntryS.l0]
        exact Ev_f (by simp; omega) (Ev_n (by simp))
      · simp only [laws_heldEntryS.l0]
        exact Ev_f (by simp; omega) (Ev_n (by simp))
    | cons x q ih =>
      intro p i c q1 q2 q3 q4
      simp only [List.length_cons] at q3 q4
      have e0 : wrap64 (c + 1) = c + 1 := (wr64 (by omega) (by omega)).trans (by omega)
      have e1 : wrap64 (c + 1 + 1) = c + 2 := (wr64 (by omega) (by omega)).trans (by omega)
      have e2 : wrap64 (c + 2 + 1) = c + 3 := (wr64 (by omega) (by omega)).trans (by omega)
      have e3 : wrap64 (c + 3 + 1) = c + 4 := (wr64 (by omega) (by omega)).trans (by omega)
      obtain ⟨t0, ht0⟩ := markText_ev (c) (by omega) (by omega)
      obtain ⟨t1, ht1⟩ := markText_ev (c + 1) (by omega) (by omega)
      obtain ⟨q', hq, hm, hh⟩ := ih (p ++ [(⟨t0, (⟨t1, c + 2, c + 3⟩ : S69)⟩ : S71)]) (i + 1) (c + 4) (by simp; omega) (by omega) (by omega) (by omega)
      refine ⟨(⟨t0, (⟨t1, c + 2, c + 3⟩ : S69)⟩ : S71) :: q', by simp [hq], Ev_suc ?_, fun r hr => Ev_suc ?_⟩
      · simp only [laws_markEntryS.l0, e0, e1, e2, e3, set_at p q _ _ i q1, rda_Entry p q _ i q1]
        refine Ev_t (by simp; omega) ?_
        refine Ev_b ht0 ?_
        refine Ev_t (by omega) ?_
        refine Ev_s ?_
        try simp only [e0, e1, e2, e3, set_at p q _ _ i q1, rda_Entry p q _ i q1]
        refine Ev_b ht1 ?_
        refine Ev_s ?_
        try simp only [e0, e1, e2, e3, set_at p q _ _ i q1, rda_Entry p q _ i q1]
        refine Ev_s ?_
        try simp only [e0, e1, e2, e3, set_at p q _ _ i q1, rda_Entry p q _ i q1]
        try simp only [e0, e1, e2, e3, set_at p q _ _ i q1, rda_Entry p q _ i q1]
        rw [wr64s i (by omega)]
        have hm' := hm
        rw [List.append_assoc, List.singleton_append, List.append_assoc, List.singleton_append] at hm'
        exact Ev_at hm' (by simp only [List.length_cons, Prod.mk.injEq, and_true]; omega)
      · simp only [laws_heldEntryS.l0, e0, e1, e2, e3, rda_Entry r q' _ i hr]
        refine Ev_t (by simp; omega) ?_
        refine Ev_t (by omega) ?_
        refine Ev_b ht0 ?_
        refine Ev_t (by first | rfl | exact True.intro | omega) ?_
        refine Ev_b ht1 ?_
        refine Ev_t (by first | rfl | exact True.intro | omega) ?_
        refine Ev_t (by first | rfl | exact True.intro | omega) ?_
        refine Ev_t (by first | rfl | exact True.intro | omega) ?_
        rw [wr64s i (by omega)]
        have hh' := hh (r ++ [(⟨t0, (⟨t1, c + 2, c + 3⟩ : S69)⟩ : S71)]) (by simp; omega)
        rw [List.append_assoc, List.singleton_append] at hh'
        exact Ev_at hh' (by simp only [List.length_cons]; omega)
  obtain ⟨l', e1, e2, e3⟩ := go l [] 0 c rfl h0 (by omega) (by simpa using hl)
  refine ⟨l', e1, ?_, ?_⟩
  · simp only [laws_markEntryS.f]; exact e2
  · simp only [laws_heldEntryS.f]; exact e3 [] rfl
theorem rdi_Change (l : List S87) (i : Nat) (h : i < l.length) : rd_T87 l (i : Int) = l[i] := by unfold rd_T87; exact getD_in l _ i h
theorem rda_Change (a b : List S87) (x : S87) (i : Nat) (h : a.length = i) : rd_T87 (a ++ x :: b) (i : Int) = x := by unfold rd_T87; exact getD_at a b _ x i h
def E_Change (x : S87) : Prop := E_Entry x.f1
theorem eq_Change (x : S87) (he : E_Change x) : Ev (fun k => laws_eqChange.f (x.f0) (x.f1.f0) (x.f1.f1.f0) (x.f1.f1.f1) (x.f1.f1.f2) (x.f0) (x.f1.f0) (x.f1.f1.f0) (x.f1.f1.f1) (x.f1.f1.f2)) true := by
  unfold E_Change at he
  simp only [laws_eqChange.f, if_true]
  refine Ev_b (eq_Entry x.f1 he) ?_
  simp only [if_true]
  exact Ev_n rfl
theorem eqS_Change (m : List S87) (hl : (m.length : Int) ≤ 1048576) (he : ∀ y ∈ m, E_Change y) : Ev (fun k => laws_eqChangeS.f k m m) true := by
  have go : ∀ (d i : Nat), i + d = m.length → Ev (fun k => laws_eqChangeS.l0 k m m i) true := by
    intro d
    induction d with
    | zero =>
      intro i q1
      refine Ev_suc ?_
      simp only [laws_eqChangeS.l0]
      exact Ev_f (by omega) (Ev_n rfl)
    | succ d ih =>
      intro i q1
      refine Ev_suc ?_
      simp only [laws_eqChangeS.l0]
      refine Ev_t (by omega) (Ev_t (by omega) (Ev_t (by omega) ?_))
      rw [rdi_Change m i (by omega)]
      refine Ev_b (eq_Change m[i] (he _ (List.getElem_mem _))) ?_
      rw [wr64s i (by omega)]
      exact Ev_t rfl (ih (i + 1) (by omega))
  simp only [laws_eqChangeS.f]
  exact Ev_t (by first | trivial | rfl) (go m.length 0 (by omega))
theorem mk_Change (l : List S87) (c : Int) (h0 : 0 ≤ c) (h1 : c ≤ 1000000000000) (hl : (l.length : Int) ≤ 1000000000000) : ∃ l', l'.length = l.length ∧ Ev (fun k => laws_markChangeS.f k l c) (c + 5 * l.length, l') ∧ Ev (fun k => laws_heldChangeS.f k l' c) (c + 5 * l.length) := by
  have go : ∀ (q p : List S87) (i : Nat) (c : Int), p.length = i → 0 ≤ c → c + 5 * q.length ≤ 100000000000000000 → (i : Int) + q.length ≤ 1000000000000 → ∃ q', q'.length = q.length ∧ Ev (fun k => laws_markChangeS.l0 k (p ++ q) c i) (c + 5 * q.length, p ++ q') ∧ ∀ r : List S87, r.length = i → Ev (fun k => laws_heldChangeS.l0 k (r ++ q') c i) (c + 5 * q.length) := by
    intro q
    induction q with
    | nil =>
      intro p i c q1 q2 q3 q4
      refine ⟨[], rfl, Ev_suc ?_, fun r hr => Ev_suc ?_⟩
      · simp only [laws_markChangeS.l0]
        exact Ev_f (by simp; omega) (Ev_n (by simp))
      · simp only [laws_heldChangeS.l0]
        exact Ev_f (by simp; omega) (Ev_n (by simp))
    | cons x q ih =>
      intro p i c q1 q2 q3 q4
      simp only [List.length_cons] at q3 q4
      have e0 : wrap64 (c + 1) = c + 1 := (wr64 (by omega) (by omega)).trans (by omega)
      have e1 : wrap64 (c + 1 + 1) = c + 2 := (wr64 (by omega) (by omega)).trans (by omega)
      have e2 : wrap64 (c + 2 + 1) = c + 3 := (wr64 (by omega) (by omega)).trans (by omega)
      have e3 : wrap64 (c + 3 + 1) = c + 4 := (wr64 (by omega) (by omega)).trans (by omega)
      have e4 : wrap64 (c + 4 + 1) = c + 5 := (wr64 (by omega) (by omega)).trans (by omega)
      obtain ⟨t1, ht1⟩ := markText_ev (c + 1) (by omega) (by omega)
      obtain ⟨t2, ht2⟩ := markText_ev (c + 2) (by omega) (by omega)
      obtain ⟨q', hq, hm, hh⟩ := ih (p ++ [(⟨c, (⟨t1, (⟨t2, c + 3, c + 4⟩ : S69)⟩ : S71)⟩ : S87)]) (i + 1) (c + 5) (by simp; omega) (by omega) (by omega) (by omega)
      refine ⟨(⟨c, (⟨t1, (⟨t2, c + 3, c + 4⟩ : S69)⟩ : S71)⟩ : S87) :: q', by simp [hq], Ev_suc ?_, fun r hr => Ev_suc ?_⟩
      · simp only [laws_markChangeS.l0, e0, e1, e2, e3, e4, set_at p q _ _ i q1, rda_Change p q _ i q1]
        refine Ev_t (by simp; omega) ?_
        first | refine Ev_t (by omega) ?_ | skip
        refine Ev_s ?_
        try simp only [e0, e1, e2, e3, e4, set_at p q _ _ i q1, rda_Change p q _ i q1]
        refine Ev_b ht1 ?_
        refine Ev_s ?_
        try simp only [e0, e1, e2, e3, e4, set_at p q _ _ i q1, rda_Change p q _ i q1]
        refine Ev_b ht2 ?_
        refine Ev_s ?_
        try simp only [e0, e1, e2, e3, e4, set_at p q _ _ i q1, rda_Change p q _ i q1]
        refine Ev_s ?_
        try simp only [e0, e1, e2, e3, e4, set_at p q _ _ i q1, rda_Change p q _ i q1]
        try simp only [e0, e1, e2, e3, e4, set_at p q _ _ i q1, rda_Change p q _ i q1]
        rw [wr64s i (by omega)]
        have hm' := hm
        rw [List.append_assoc, List.singleton_append, List.append_assoc, List.singleton_append] at hm'
        exact Ev_at hm' (by simp only [List.length_cons, Prod.mk.injEq, and_true]; omega)
      · simp only [laws_heldChangeS.l0, e0, e1, e2, e3, e4, rda_Change r q' _ i hr]
        refine Ev_t (by simp; omega) ?_
        refine Ev_t (by omega) ?_
        refine Ev_t (by first | rfl | exact True.intro | omega) ?_
        refine Ev_b ht1 ?_
        refine Ev_t (by first | rfl | exact True.intro | omega) ?_
        refine Ev_b ht2 ?_
        refine Ev_t (by first | rfl | exact True.intro | omega) ?_
        refine Ev_t (by first | rfl | exact True.intro | omega) ?_
        refine Ev_t (by first | rfl | exact True.intro | omega) ?_
        rw [wr64s i (by omega)]
        have hh' := hh (r ++ [(⟨c, (⟨t1, (⟨t2, c + 3, c + 4⟩ : S69)⟩ : S71)⟩ : S87)]) (by simp; omega)
        rw [List.append_assoc, List.singleton_append] at hh'
        exact Ev_at hh' (by simp only [List.length_cons]; omega)
  obtain ⟨l', e1, e2, e3⟩ := go l [] 0 c rfl h0 (by omega) (by simpa using hl)
  refine ⟨l', e1, ?_, ?_⟩
  · simp only [laws_markChangeS.f]; exact e2
  · simp only [laws_heldChangeS.f]; exact e3 [] rfl
end Go.Proofs.Ythnigkbbmhnafaa.Q
namespace Go.Proofs.Ythnigkbbmhnafaa.Q
open Go.RowKit Go.Proofs.YthnigkbbmhnafaaW.PrintWords Go.Proofs.YthnigkbbmhnafaaW.PrintLast Go.Proofs.YthnigkbbmhnafaaW.PrintMore
structure Ordr {κ : Type} (c : κ → κ → Int) : Prop where
  zero : ∀ a b, c a b = 0 ↔ a = b
  anti : ∀ a b, c a b < 0 ↔ 0 < c b a
  trans : ∀ a b d, c a b < 0 → c b d < 0 → c a d < 0
theorem cb_ord : Ordr Go.Lib.compareBytes := by
  constructor
  · intro a
    induction a with
    | nil => intro b; cases b <;> simp [Go.Lib.compareBytes]
    | cons x a ih =>
      intro b
      cases b with
      | nil => simp [Go.Lib.compareBytes]
      | cons y b =>
        simp only [Go.Lib.compareBytes]
        by_cases h1 : x < y
        · have : x ≠ y := fun e => by subst e; exact absurd h1 (UInt8.lt_irrefl _)
          simp [h1, this]
        · by_cases h2 : y < x
          · have : x ≠ y := fun e => by subst e; exact absurd h2 (UInt8.lt_irrefl _)
            simp [h1, h2, this]
          · have : x = y := UInt8.le_antisymm (UInt8.not_lt.1 h2) (UInt8.not_lt.1 h1)
            subst this
            simp [h1, ih]
  · intro a
    induction a with
    | nil => intro b; cases b <;> simp [Go.Lib.compareBytes]
    | cons x a ih =>
      intro b
      cases b with
      | nil => simp [Go.Lib.compareBytes]
      | cons y b =>
        simp only [Go.Lib.compareBytes]
        by_cases h1 : x < y
        · have h2 : ¬ y < x := fun h => absurd (UInt8.lt_trans h1 h) (UInt8.lt_irrefl _)
          simp [h1, h2]
        · by_cases h2 : y < x
          · simp [h1, h2]
          · simp [h1, h2, ih]
  · intro a
    induction a with
    | nil => intro b d; cases b <;> cases d <;> simp [Go.Lib.compareBytes]
    | cons x a ih =>
      intro b d
      cases b with
      | nil => simp [Go.Lib.compareBytes]
      | cons y b =>
        cases d with
        | nil => simp [Go.Lib.compareBytes]
        | cons z d =>
          simp only [Go.Lib.compareBytes]
          by_cases h1 : x < y
          · by_cases h2 : y < z
            · simp [h1, h2, UInt8.lt_trans h1 h2]
            · by_cases h3 : z < y
              · simp [h1, h2, h3]
              · have : y = z := UInt8.le_antisymm (UInt8.not_lt.1 h3) (UInt8.not_lt.1 h2)
                subst this
                simp [h1]
          · by_cases h1' : y < x
            · simp [h1, h1']
            · have : x = y := UInt8.le_antisymm (UInt8.not_lt.1 h1') (UInt8.not_lt.1 h1)
              subst this
              by_cases h2 : x < z
              · simp [h2]
              · by_cases h3 : z < x
                · simp [h2, h3]
                · simpa [h1, h2, h3] using ih b d
theorem Ordr.step {κ : Type} {c : κ → κ → Int} (h : Ordr c) {x y t : κ} (h1 : c x y < 0) (h2 : 0 ≤ c x t) : 0 < c y t := by
  by_cases e : c x t = 0
  · have := (h.zero x t).1 e
    subst this
    exact (h.anti _ _).1 h1
  · have q : c t x < 0 := (h.anti t x).2 (by omega)
    exact (h.anti t y).1 (h.trans t x y q h1)
def plc {α : Type} (c : α → Int) : List α → Nat
  | [] => 0
  | x :: l => if c x < 0 then plc c l + 1 else 0
def Rsg {α : Type} (c : α → Int) (l : List α) : Prop := ∀ (i j : Nat) (hi : i < j) (hj : j < l.length), 0 ≤ c l[i] → 0 < c l[j]
theorem plc_le {α : Type} (c : α → Int) : ∀ l, plc c l ≤ l.length
  | [] => by simp [plc]
  | x :: l => by have := plc_le c l; unfold plc; split <;> simp <;> omega
theorem plc_lt {α : Type} (c : α → Int) : ∀ l (i : Nat) (hi : i < l.length), i < plc c l → c l[i] < 0
  | [], i, hi, _ => by simp at hi
  | x :: l, i, hi, h => by
    unfold plc at h
    split at h
    · rename_i hx
      cases i with
      | zero => exact hx
      | succ i => exact plc_lt c l i (by simpa using hi) (by omega)
    · omega
theorem plc_at {α : Type} (c : α → Int) : ∀ l (h : plc c l < l.length), 0 ≤ c (l[plc c l]'h)
  | [], h => by simp [plc] at h
  | x :: l, h => by
    by_cases hx : c x < 0
    · have e : plc c (x :: l) = plc c l + 1 := by rw [plc, if_pos hx]
      have h2 : plc c l < l.length := by rw [e] at h; simpa using h
      have := plc_at c l h2
      simpa only [e, List.getElem_cons_succ] using this
    · have e : plc c (x :: l) = 0 := by rw [plc, if_neg hx]
      simp only [e, List.getElem_cons_zero]
      omega
theorem Rsg.gt {α : Type} {c : α → Int} {l : List α} (h : Rsg c l) (i : Nat) (hi : i < l.length) (hp : plc c l < i) : 0 < c l[i] := h (plc c l) i hp hi (plc_at c l (by omega))
def fnd {α : Type} (c : α → Int) (l : List α) : Bool := if h : plc c l < l.length then decide (c (l[plc c l]'h) = 0) else false
theorem fnd_t {α : Type} {c : α → Int} {l : List α} (h : fnd c l = true) : ∃ hp : plc c l < l.length, c (l[plc c l]'hp) = 0 := by
  unfold fnd at h
  split at h
  · rename_i hp; exact ⟨hp, by simpa using h⟩
  · cases h
theorem rsg_of {α κ : Type} {c : κ → κ → Int} (ho : Ordr c) (key : α → κ) {l : List α} (h : ∀ (i : Nat) (hi : i + 1 < l.length), c (key (l[i]'(by omega))) (key l[i + 1]) < 0) (t : κ) : Rsg (fun x => c (key x) t) l := by
  have q : ∀ (d i : Nat) (hj : i + d + 1 < l.length), c (key (l[i]'(by omega))) (key l[i + d + 1]) < 0 := by
    intro d
    induction d with
    | zero => intro i hj; exact h i hj
    | succ d ih =>
      intro i hj
      exact ho.trans _ _ _ (ih i (by omega)) (h (i + d + 1) (by omega))
  intro i j hi hj h0
  have e : i + (j - i - 1) + 1 = j := by omega
  have := q (j - i - 1) i (by omega)
  simp only [e] at this
  exact ho.step this h0
theorem mid_ev (i j : Nat) (h : (i : Int) + j < 1000000000000) : wrap64 ((IntKind.u64.wrap (wrap64 ((i : Int) + j))) / 2) = (((i + j) / 2 : Nat) : Int) := by
  rw [wr64 (x := (i : Int) + j) (by omega) (by omega)]
  have : IntKind.u64.wrap ((i : Int) + j) = (i : Int) + j := by simp [IntKind.wrap, IntKind.bits, IntKind.signed]; omega
  rw [this, wr64 (by omega) (by omega)]
  omega
end Go.Proofs.Ythnigkbbmhnafaa.Q
namespace Go.Proofs.Ythnigkbbmhnafaa.Q
open Go.RowKit Go.Proofs.YthnigkbbmhnafaaW.PrintWords Go.Proofs.YthnigkbbmhnafaaW.PrintLast Go.Proofs.YthnigkbbmhnafaaW.PrintMore
theorem ite_and (b c : Bool) : (if b = true then some c else some false) = some (b && c) := by cases b <;> rfl
theorem in_f (a b c : Int) : spec_l00In.f a b c = some (decide (b ≤ a) && decide (a ≤ c)) := by unfold spec_l00In.f; by_cases h : a ≥ b <;> simp [h]
theorem within_f (a b c : Int) : impl_within.f a b c = some (decide (b ≤ a) && decide (a ≤ c)) := by unfold impl_within.f; by_cases h : a ≥ b <;> simp [h]
theorem w64 {x : Int} (h0 : -9223372036854775808 ≤ x) (h1 : x < 9223372036854775808) : wrap64 x = x := by unfold wrap64; omega
end Go.Proofs.Ythnigkbbmhnafaa.Q
namespace Go.Proofs.Ythnigkbbmhnafaa.Q
open Go.RowKit Go.Proofs.YthnigkbbmhnafaaW.PrintWords Go.Proofs.YthnigkbbmhnafaaW.PrintLast Go.Proofs.YthnigkbbmhnafaaW.PrintMore
theorem toList_len (x : ByteArray) : x.toList.length = x.size := by
  rw [Go.ByteArray.toList_eq x, Array.length_toList]; rfl
theorem name_round (k : Nat) (x : ByteArray) (i : Int) : spec_l01Name.l0 k x i = impl_IsName.l0 k x i := by
  induction k generalizing i with
  | zero => rfl
  | succ k ih =>
    simp only [spec_l01Name.l0, impl_IsName.l0, ih, spec_l01Small.f, spec_l01Digit.f]
    by_cases h1 : i < (x.size : Int)
    · rw [if_pos h1, if_pos h1]
      by_cases h2 : 0 ≤ i
      · rw [if_pos h2, if_pos h2]
        generalize bt x i = c
        by_cases h3 : c < 97
        · rw [if_pos h3, if_neg (by omega)]
          by_cases h4 : c < 48
          · rw [if_pos h4, if_neg (by omega)]; simp
          · rw [if_neg h4, if_pos (by omega)]
            by_cases h5 : c > 57
            · rw [if_pos h5]; simp [show ¬ c ≤ 57 by omega]
            · rw [if_neg h5]; simp [show c ≤ 57 by omega]
        · rw [if_neg h3, if_pos (show c ≥ 97 by omega)]
          by_cases h4 : c > 122
          · simp [h4, show ¬ c < 48 by omega, show c > 57 by omega, show ¬ c ≤ 122 by omega, show ¬ c ≤ 57 by omega]
          · rw [if_neg h4]; simp [show c ≤ 122 by omega]
      · rw [if_neg h2, if_neg h2]
    · rw [if_neg h1, if_neg h1]
theorem name_same (k : Nat) (x : ByteArray) : spec_l01Name.f k x = impl_IsName.f k x := by
  have hj : ∀ b, spec_l01Name.j0 k x b = impl_IsName.j0 k x b := by
    intro b
    cases k with
    | zero => rfl
    | succ k => simp only [spec_l01Name.j0, impl_IsName.j0, name_round]
  unfold spec_l01Name.f impl_IsName.f spec_l01Small.f
  simp only [hj]
  by_cases h0 : x.toList = []
  · have : x.size = 0 := by rw [← toList_len, h0]; rfl
    rw [if_pos h0, if_pos (by omega)]
  · have : x.size ≠ 0 := by
      intro e; apply h0; apply List.eq_nil_of_length_eq_zero; rw [toList_len, e]
    rw [if_neg h0, if_neg (show ¬ (x.size : Int) < 1 by omega)]
    by_cases h1 : (x.size : Int) > 10
    · rw [if_pos h1, if_pos h1]
    · rw [if_neg h1, if_neg h1, if_pos (show 0 < (x.size : Int) by omega), if_pos (show 0 < (x.size : Int) by omega)]
      generalize bt x 0 = c
      by_cases h3 : c < 97
      · rw [if_pos h3, if_neg (show ¬ c ≥ 97 by omega)]; rfl
      · rw [if_neg h3, if_pos (show c ≥ 97 by omega)]
        simp only [Option.bind_some]
        congr 1
        by_cases h4 : c > 122
        · simp [h4, show ¬ c ≤ 122 by omega]
        · simp [h4, show c ≤ 122 by omega]
theorem name_ev (x : ByteArray) : ∃ b, ∀ k, 12 < k → impl_IsName.f k x = some b := by
  have go : ∀ (d : Nat) (i : Int), 0 ≤ i → i + d = x.size → (x.size : Int) ≤ 10 → ∃ b, ∀ k, d < k → impl_IsName.l0 k x i = some b := by
    intro d
    induction d with
    | zero =>
      intro i h0 h1 _
      refine ⟨true, fun k hk => ?_⟩
      obtain ⟨k, rfl⟩ : ∃ m, k = m + 1 := ⟨k - 1, by omega⟩
      simp only [impl_IsName.l0]
      rw [if_neg (by omega)]
    | succ d ih =>
      intro i h0 h1 h2
      obtain ⟨b, hb⟩ := ih (i + 1) (by omega) (by omega) h2
      by_cases h3 : bt x i < 97
      · by_cases h4 : bt x i < 48
        · refine ⟨false, fun k hk => ?_⟩
          obtain ⟨k, rfl⟩ : ∃ m, k = m + 1 := ⟨k - 1, by omega⟩
          simp only [impl_IsName.l0]
          rw [if_pos (by omega), if_pos h0, if_pos h3, if_pos h4]
        · by_cases h5 : bt x i > 57
          · refine ⟨false, fun k hk => ?_⟩
            obtain ⟨k, rfl⟩ : ∃ m, k = m + 1 := ⟨k - 1, by omega⟩
            simp only [impl_IsName.l0]
            rw [if_pos (by omega), if_pos h0, if_pos h3, if_neg h4, if_pos h5]
          · refine ⟨b, fun k hk => ?_⟩
            obtain ⟨k, rfl⟩ : ∃ m, k = m + 1 := ⟨k - 1, by omega⟩
            simp only [impl_IsName.l0]
            rw [if_pos (by omega), if_pos h0, if_pos h3, if_neg h4, if_neg h5, w64 (by omega) (by omega), hb k (by omega)]
      · by_cases h4 : bt x i > 122
        · refine ⟨false, fun k hk => ?_⟩
          obtain ⟨k, rfl⟩ : ∃ m, k = m + 1 := ⟨k - 1, by omega⟩
          simp only [impl_IsName.l0]
          rw [if_pos (by omega), if_pos h0, if_neg h3, if_pos h4, if_neg (by omega), if_pos (by omega)]
        · refine ⟨b, fun k hk => ?_⟩
          obtain ⟨k, rfl⟩ : ∃ m, k = m + 1 := ⟨k - 1, by omega⟩
          simp only [impl_IsName.l0]
          rw [if_pos (by omega), if_pos h0, if_neg h3, if_neg h4, w64 (by omega) (by omega), hb k (by omega)]
  have hj : ∀ (b : Bool), (b = false → (x.size : Int) ≤ 10) → ∃ c, ∀ k, 12 < k → impl_IsName.j0 k x b = some c := by
    intro b hs
    cases b with
    | true =>
      refine ⟨false, fun k hk => ?_⟩
      obtain ⟨k, rfl⟩ : ∃ m, k = m + 1 := ⟨k - 1, by omega⟩
      simp only [impl_IsName.j0, if_true]
    | false =>
      obtain ⟨c, hc⟩ := go x.size 0 (by omega) (by omega) (hs rfl)
      have := hs rfl
      refine ⟨c, fun k hk => ?_⟩
      obtain ⟨k, rfl⟩ : ∃ m, k = m + 1 := ⟨k - 1, by omega⟩
      simp only [impl_IsName.j0]
      rw [if_neg (by decide), hc k (by omega)]
  unfold impl_IsName.f
  by_cases h1 : (x.size : Int) < 1
  · simp only [if_pos h1]; exact hj true (by intro h; cases h)
  · simp only [if_neg h1]
    by_cases h2 : (x.size : Int) > 10
    · simp only [if_pos h2]; exact hj true (by intro h; cases h)
    · simp only [if_neg h2, if_pos (show 0 < (x.size : Int) by omega)]
      by_cases h3 : bt x 0 < 97
      · simp only [if_pos h3]; exact hj true (by intro h; cases h)
      · simp only [if_neg h3]; exact hj _ (fun _ => by omega)
end Go.Proofs.Ythnigkbbmhnafaa.Q
namespace Go.Proofs.Ythnigkbbmhnafaa.Q
open Go.RowKit Go.Proofs.YthnigkbbmhnafaaW.PrintWords Go.Proofs.YthnigkbbmhnafaaW.PrintLast Go.Proofs.YthnigkbbmhnafaaW.PrintMore
def spi (l : List UInt8) : Int := if l = [97, 115, 104] then 0 else if l = [98, 101, 101, 99, 104] then 1 else if l = [98, 105, 114, 99, 104] then 2 else if l = [99, 104, 101, 114, 114, 121] then 3 else if l = [101, 98, 111, 110, 121] then 4 else if l = [104, 111, 108, 108, 121] then 5 else if l = [109, 97, 112, 108, 101] then 6 else if l = [111, 97, 107] then 7 else if l = [114, 111, 115, 101, 119, 111, 111, 100] then 8 else if l = [119, 97, 108, 110, 117, 116] then 9 else -1
def shades : List Int := [20, 35, 15, 50, 95, 5, 10, 40, 80, 70]
theorem sp_cases (l : List UInt8) : (l = [97, 115, 104]) ∨ (l = [98, 101, 101, 99, 104]) ∨ (l = [98, 105, 114, 99, 104]) ∨ (l = [99, 104, 101, 114, 114, 121]) ∨ (l = [101, 98, 111, 110, 121]) ∨ (l = [104, 111, 108, 108, 121]) ∨ (l = [109, 97, 112, 108, 101]) ∨ (l = [111, 97, 107]) ∨ (l = [114, 111, 115, 101, 119, 111, 111, 100]) ∨ (l = [119, 97, 108, 110, 117, 116]) ∨ (¬ l = [97, 115, 104] ∧ ¬ l = [98, 101, 101, 99, 104] ∧ ¬ l = [98, 105, 114, 99, 104] ∧ ¬ l = [99, 104, 101, 114, 114, 121] ∧ ¬ l = [101, 98, 111, 110, 121] ∧ ¬ l = [104, 111, 108, 108, 121] ∧ ¬ l = [109, 97, 112, 108, 101] ∧ ¬ l = [111, 97, 107] ∧ ¬ l = [114, 111, 115, 101, 119, 111, 111, 100] ∧ ¬ l = [119, 97, 108, 110, 117, 116]) := by
  by_cases h0 : l = [97, 115, 104]
  · exact .inl h0
  by_cases h1 : l = [98, 101, 101, 99, 104]
  · exact .inr ((.inl h1))
  by_cases h2 : l = [98, 105, 114, 99, 104]
  · exact .inr (.inr ((.inl h2)))
  by_cases h3 : l = [99, 104, 101, 114, 114, 121]
  · exact .inr (.inr (.inr ((.inl h3))))
  by_cases h4 : l = [101, 98, 111, 110, 121]
  · exact .inr (.inr (.inr (.inr ((.inl h4)))))
  by_cases h5 : l = [104, 111, 108, 108, 121]
  · exact .inr (.inr (.inr (.inr (.inr ((.inl h5))))))
  by_cases h6 : l = [109, 97, 112, 108, 101]
  · exact .inr (.inr (.inr (.inr (.inr (.inr ((.inl h6)))))))
  by_cases h7 : l = [111, 97, 107]
  · exact .inr (.inr (.inr (.inr (.inr (.inr (.inr ((.inl h7))))))))
  by_cases h8 : l = [114, 111, 115, 101, 119, 111, 111, 100]
  · exact .inr (.inr (.inr (.inr (.inr (.inr (.inr (.inr ((.inl h8)))))))))
  by_cases h9 : l = [119, 97, 108, 110, 117, 116]
  · exact .inr (.inr (.inr (.inr (.inr (.inr (.inr (.inr (.inr ((.inl h9))))))))))
  exact .inr (.inr (.inr (.inr (.inr (.inr (.inr (.inr (.inr (.inr (⟨h0, h1, h2, h3, h4, h5, h6, h7, h8, h9⟩))))))))))
theorem l07Find_f (a : ByteArray) (k : Nat) (hk : 12 ≤ k) : spec_l07Find.f k a = some (spi a.toList) := by
  obtain ⟨k, rfl⟩ : ∃ m, k = m + 12 := ⟨k - 12, by omega⟩
  unfold spec_l07Find.f spec_l07Names.f spi
  simp only [Option.bind_some, spec_l07Find.l0, wrap64, rdOf]
  simp (decide := true)
  generalize a.toList = l
  simp only [eq_comm (b := l)]
  rcases sp_cases l with h | h | h | h | h | h | h | h | h | h | h
  all_goals first | (subst h; decide) | (obtain ⟨h0, h1, h2, h3, h4, h5, h6, h7, h8, h9⟩ := h; simp only [h0, h1, h2, h3, h4, h5, h6, h7, h8, h9, if_false])
def vVen (l : List UInt8) (sh gr : Int) : Bool := decide (0 ≤ spi l) && ((decide (0 ≤ sh) && decide (sh ≤ 100)) && ((decide (rd shades (spi l) - 15 ≤ sh) && decide (sh ≤ rd shades (spi l) + 15)) && (decide (0 ≤ gr) && decide (gr ≤ 179))))
theorem spi_range (l : List UInt8) : -1 ≤ spi l ∧ spi l ≤ 9 := by
  rcases sp_cases l with h | h | h | h | h | h | h | h | h | h | h
  all_goals first | (subst h; decide) | (obtain ⟨h0, h1, h2, h3, h4, h5, h6, h7, h8, h9⟩ := h; unfold spi; simp only [h0, h1, h2, h3, h4, h5, h6, h7, h8, h9, if_false]; decide)
theorem shade_of (i : Int) (h0 : 0 ≤ i) (h1 : i ≤ 9) : ∃ t, spec_l07Table.f = some t ∧ i < t.length ∧ 0 < (rd_L7 t i).length ∧ rd (rd_L7 t i) 0 = rd shades i ∧ 0 ≤ rd shades i ∧ rd shades i ≤ 100 := by
  refine ⟨_, rfl, ?_⟩
  obtain ⟨n, rfl⟩ := Int.eq_ofNat_of_zero_le h0
  have hn : n ≤ 9 := by omega
  match n, hn with
  | 0, _ => decide
  | 1, _ => decide
  | 2, _ => decide
  | 3, _ => decide
  | 4, _ => decide
  | 5, _ => decide
  | 6, _ => decide
  | 7, _ => decide
  | 8, _ => decide
  | 9, _ => decide
theorem iShade_f (a : ByteArray) : impl_speciesShade.f a = some (if 0 ≤ spi a.toList then (rd shades (spi a.toList), true) else (0, false)) := by
  unfold impl_speciesShade.f impl_SpeciesData.f spi
  generalize a.toList = l
  rcases sp_cases l with h | h | h | h | h | h | h | h | h | h | h
  all_goals first | (subst h; decide) | (obtain ⟨h0, h1, h2, h3, h4, h5, h6, h7, h8, h9⟩ := h; simp only [h0, h1, h2, h3, h4, h5, h6, h7, h8, h9, if_false]; decide)
theorem l07Ok_f (x : S69) (k : Nat) (hk : 12 ≤ k) : spec_l07Ok.f k [x] = some (vVen x.f0.toList x.f1 x.f2) := by
  obtain ⟨k, rfl⟩ : ∃ m, k = m + 1 := ⟨k - 1, by omega⟩
  have hrd : rd_T69 [x] 0 = x := rfl
  unfold spec_l07Ok.f vVen
  rw [if_pos (by simp), hrd, l07Find_f _ _ hk]
  simp only [Option.bind_some]
  have hr := spi_range x.f0.toList
  by_cases h : spi x.f0.toList < 0
  · rw [if_pos h]
    simp only [spec_l07Ok.j0, if_true]
    rw [show decide (0 ≤ spi x.f0.toList) = false from decide_eq_false (by omega)]
    rfl
  · rw [if_neg h, in_f, show decide (0 ≤ spi x.f0.toList) = true from decide_eq_true (by omega)]
    obtain ⟨t, ht, h1, h2, h3, h4, h5⟩ := shade_of (spi x.f0.toList) (by omega) (by omega)
    simp only [Option.bind_some, spec_l07Ok.j0]
    cases hs : (decide (0 ≤ x.f1) && decide (x.f1 ≤ 100))
    · simp
    · rw [if_neg (by simp), ht]
      simp only [Option.bind_some]
      rw [if_pos (by omega), if_pos h1, if_pos (by omega), if_pos (by simp), hrd, h3, in_f, w64 (by omega) (by omega), w64 (by omega) (by omega)]
      simp only [Option.bind_some, spec_l07Grain.f, in_f]
      rw [ite_and]
      simp
theorem iValidVeneer_f (a : ByteArray) (sh gr : Int) : impl_ValidVeneer.f a sh gr = some (vVen a.toList sh gr) := by
  unfold impl_ValidVeneer.f vVen
  rw [iShade_f]
  simp only [Option.bind_some]
  have hr := spi_range a.toList
  by_cases h : 0 ≤ spi a.toList
  · rw [if_pos h]
    obtain ⟨t, ht, h1, h2, h3, h4, h5⟩ := shade_of (spi a.toList) h (by omega)
    simp only [if_true, within_f, Option.bind_some]
    rw [show decide (0 ≤ spi a.toList) = true from decide_eq_true h]
    cases hs : (decide (0 ≤ sh) && decide (sh ≤ 100))
    · simp
    · have hs' : 0 ≤ sh ∧ sh ≤ 100 := by simpa using hs
      rw [w64 (by omega) (by omega)]
      simp only [if_true, ite_and, Bool.true_and]
      congr 2
      rw [Bool.eq_iff_iff]
      simp only [Bool.and_eq_true, decide_eq_true_eq]
      omega
  · rw [if_neg h, show decide (0 ≤ spi a.toList) = false from decide_eq_false h]
    simp
end Go.Proofs.Ythnigkbbmhnafaa.Q
namespace Go.Proofs.Ythnigkbbmhnafaa.Q
open Go.RowKit Go.Proofs.YthnigkbbmhnafaaW.PrintWords Go.Proofs.YthnigkbbmhnafaaW.PrintLast Go.Proofs.YthnigkbbmhnafaaW.PrintMore
abbrev Ent := S71
def fcE (x : Ent) : List UInt8 := x.f0.data.toList
theorem less_iff : ∀ l m : List UInt8, Op.bytesLess l m = true ↔ Go.Lib.compareBytes l m < 0
  | [], [] => by simp [Go.Lib.compareBytes, Op.bytesLess]
  | [], _ :: _ => by simp [Go.Lib.compareBytes, Op.bytesLess]
  | _ :: _, [] => by simp [Go.Lib.compareBytes, Op.bytesLess]
  | a :: x, b :: y => by
    have ih := less_iff x y
    unfold Go.Lib.compareBytes Op.bytesLess
    by_cases hab : a < b
    · have hne : a ≠ b := fun e => by subst e; exact absurd hab (UInt8.lt_irrefl _)
      simp [hab, hne]
    · by_cases hba : b < a
      · have hne : a ≠ b := fun e => by subst e; exact absurd hba (UInt8.lt_irrefl _)
        simp [hab, hba, hne]
      · have he : a = b := UInt8.le_antisymm (UInt8.not_lt.1 hba) (UInt8.not_lt.1 hab)
        subst he
        simp only [hab, if_false]
        simpa using ih
theorem nameE_ev (x : ByteArray) : ∃ b, Ev (fun k => impl_IsName.f k x) b ∧ Ev (fun k => spec_l01Name.f k x) b := by
  obtain ⟨b, hb⟩ := name_ev x
  exact ⟨b, ⟨13, fun k hk => hb k (by omega)⟩, ⟨13, fun k hk => (name_same k x).trans (hb k (by omega))⟩⟩
theorem entry_ev (x : Ent) : ∃ b, Ev (fun k => spec_l27Entry.f k [x]) b ∧ Ev (fun k => impl_validEntry.f k x.f0 x.f1.f0 x.f1.f1 x.f1.f2) b ∧ (b = true → vVen x.f1.f0.toList x.f1.f1 x.f1.f2 = true) := by
  obtain ⟨n, h1, h2⟩ := nameE_ev x.f0
  have v1 : Ev (fun k => spec_l07Ok.f k [x.f1]) (vVen x.f1.f0.toList x.f1.f1 x.f1.f2) := ⟨12, fun k hk => l07Ok_f x.f1 k hk⟩
  have v2 := iValidVeneer_f x.f1.f0 x.f1.f1 x.f1.f2
  have r0 : rd_T71 [x] 0 = x := rfl
  cases n with
  | false =>
    refine ⟨false, ?_, ?_, fun h => by cases h⟩
    · simp only [spec_l27Entry.f, r0]; exact Ev_t (by simp) (Ev_b h2 (Ev_f (by decide) (Ev_n rfl)))
    · simp only [impl_validEntry.f]; exact Ev_b h1 (Ev_f (by decide) (Ev_n rfl))
  | true =>
    refine ⟨vVen x.f1.f0.toList x.f1.f1 x.f1.f2, ?_, ?_, fun h => h⟩
    · simp only [spec_l27Entry.f, r0]; exact Ev_t (by simp) (Ev_b h2 (Ev_t rfl (Ev_b v1 (Ev_n rfl))))
    · simp only [impl_validEntry.f]; exact Ev_b h1 (Ev_t rfl (Ev_b (Ev_c v2) (Ev_n rfl)))
def Sta (m : List Ent) : Prop := m.length ≤ 24 ∧ (∀ (i : Nat) (hi : i + 1 < m.length), Go.Lib.compareBytes (fcE (m[i]'(by omega))) (fcE m[i + 1]) < 0) ∧ ∀ y ∈ m, vVen y.f1.f0.toList y.f1.f1 y.f1.f2 = true
theorem state_ev (m : List Ent) (hl : (m.length : Int) ≤ 1048576) : ∃ b, Ev (fun k => spec_l27State.f k m) b ∧ Ev (fun k => impl_ValidState.f k m) b ∧ (b = true → Sta m) := by
  have go : ∀ (d i : Nat), i + d = m.length → ∃ b, Ev (fun k => spec_l27State.l0 k m i) b ∧ Ev (fun k => impl_ValidState.l0 k m m (m.length : Int) i) b ∧ (b = true → m.length ≤ 24 ∧ (∀ (j : Nat), i ≤ j → 0 < j → ∀ (hj : j < m.length), Go.Lib.compareBytes (fcE (m[j - 1]'(by omega))) (fcE m[j]) < 0) ∧ ∀ (j : Nat), i ≤ j → ∀ (hj : j < m.length), vVen m[j].f1.f0.toList m[j].f1.f1 m[j].f1.f2 = true) := by
    intro d
    induction d with
    | zero =>
      intro i h1
      refine ⟨decide ((m.length : Int) ≤ 24), Ev_suc ?_, Ev_suc ?_, fun h => ⟨by have := of_decide_eq_true h; omega, fun j h2 _ hj => by omega, fun j h2 hj => by omega⟩⟩
      · simp only [spec_l27State.l0]; exact Ev_f (by omega) (Ev_n rfl)
      · simp only [impl_ValidState.l0]; exact Ev_f (by omega) (Ev_n rfl)
    | succ d ih =>
      intro i h1
      have hi : i < m.length := by omega
      obtain ⟨v, v1, v2, v3⟩ := entry_ev m[i]
      cases v with
      | false =>
        refine ⟨false, Ev_suc ?_, Ev_suc ?_, fun h => by cases h⟩
        · simp only [spec_l27State.l0]
          refine Ev_t (by omega) (Ev_t (by omega) ?_)
          rw [rdi_Entry m i hi]
          exact Ev_b v1 (Ev_f (by decide) (Ev_n rfl))
        · simp only [impl_ValidState.l0]
          refine Ev_t (by omega) (Ev_t (by omega) (Ev_t (by omega) ?_))
          rw [rdi_Entry m i hi]
          exact Ev_b v2 (Ev_f (by decide) (Ev_n rfl))
      | true =>
        obtain ⟨b, b1, b2, b3⟩ := ih (i + 1) (by omega)
        by_cases h0 : i = 0
        · refine ⟨b, Ev_suc ?_, Ev_suc ?_, fun h => ?_⟩
          · simp only [spec_l27State.l0]
            refine Ev_t (by omega) (Ev_t (by omega) ?_)
            rw [rdi_Entry m i hi, wr64s i (by omega)]
            exact Ev_b v1 (Ev_t rfl (Ev_f (by omega) b1))
          · simp only [impl_ValidState.l0]
            refine Ev_t (by omega) (Ev_t (by omega) (Ev_t (by omega) ?_))
            rw [rdi_Entry m i hi, wr64s i (by omega)]
            exact Ev_b v2 (Ev_t rfl (Ev_f (by omega) b2))
          · obtain ⟨c1, c2, c3⟩ := b3 h
            refine ⟨c1, fun j h2 h3 hj => c2 j (by omega) h3 hj, fun j h2 hj => ?_⟩
            rcases Nat.lt_or_eq_of_le h2 with g | g
            · exact c3 j (by omega) hj
            · subst g; exact v3 rfl
        · have e : wrap64 ((i : Int) - 1) = ((i - 1 : Nat) : Int) := by rw [wr64 (by omega) (by omega)]; omega
          by_cases hc : Op.bytesLess ((m[i - 1]'(by omega)).f0.toList) (m[i].f0.toList) = true
          · refine ⟨b, Ev_suc ?_, Ev_suc ?_, fun h => ?_⟩
            · simp only [spec_l27State.l0]
              refine Ev_t (by omega) (Ev_t (by omega) ?_)
              rw [e, rdi_Entry m i hi, rdi_Entry m (i - 1) (by omega), wr64s i (by omega)]
              exact Ev_b v1 (Ev_t rfl (Ev_t (by omega) (Ev_t (by omega) (Ev_t (by omega) (Ev_t hc b1)))))
            · simp only [impl_ValidState.l0]
              refine Ev_t (by omega) (Ev_t (by omega) (Ev_t (by omega) ?_))
              rw [e, rdi_Entry m i hi, rdi_Entry m (i - 1) (by omega), wr64s i (by omega)]
              exact Ev_b v2 (Ev_t rfl (Ev_t (by omega) (Ev_t (by omega) (Ev_t (by omega) (Ev_t hc b2)))))
            · obtain ⟨c1, c2, c3⟩ := b3 h
              refine ⟨c1, fun j h2 h3 hj => ?_, fun j h2 hj => ?_⟩
              · rcases Nat.lt_or_eq_of_le h2 with g | g
                · exact c2 j (by omega) h3 hj
                · subst g
                  have := (less_iff _ _).1 hc
                  simpa only [fcE, Go.ByteArray.toList_eq] using this
              · rcases Nat.lt_or_eq_of_le h2 with g | g
                · exact c3 j (by omega) hj
                · subst g; exact v3 rfl
          · refine ⟨false, Ev_suc ?_, Ev_suc ?_, fun h => by cases h⟩
            · simp only [spec_l27State.l0]
              refine Ev_t (by omega) (Ev_t (by omega) ?_)
              rw [e, rdi_Entry m i hi, rdi_Entry m (i - 1) (by omega), wr64s i (by omega)]
              exact Ev_b v1 (Ev_t rfl (Ev_t (by omega) (Ev_t (by omega) (Ev_t (by omega) (Ev_f hc (Ev_n rfl))))))
            · simp only [impl_ValidState.l0]
              refine Ev_t (by omega) (Ev_t (by omega) (Ev_t (by omega) ?_))
              rw [e, rdi_Entry m i hi, rdi_Entry m (i - 1) (by omega), wr64s i (by omega)]
              exact Ev_b v2 (Ev_t rfl (Ev_t (by omega) (Ev_t (by omega) (Ev_t (by omega) (Ev_f hc (Ev_n rfl))))))
  obtain ⟨b, b1, b2, b3⟩ := go m.length 0 (by omega)
  refine ⟨b, by simp only [spec_l27State.f]; exact b1, by simp only [impl_ValidState.f]; exact b2, fun h => ?_⟩
  obtain ⟨c1, c2, c3⟩ := b3 h
  refine ⟨c1, fun i hi => c2 (i + 1) (by omega) (by omega) hi, fun y hy => ?_⟩
  obtain ⟨j, hj, rfl⟩ := List.mem_iff_getElem.1 hy
  exact c3 j (by omega) hj
end Go.Proofs.Ythnigkbbmhnafaa.Q
namespace Go.Proofs.Ythnigkbbmhnafaa.Q
open Go.RowKit Go.Proofs.YthnigkbbmhnafaaW.PrintWords Go.Proofs.YthnigkbbmhnafaaW.PrintLast Go.Proofs.YthnigkbbmhnafaaW.PrintMore
theorem ep_ev (a0 a1 : ByteArray) (a2 a3 : Int) (b : ByteArray) : impl_entryPlace_1.f a0 a1 a2 a3 b = some (Go.Lib.compareBytes a0.data.toList b.data.toList) := by
  unfold impl_entryPlace_1.f strings_Compare.f
  rfl
theorem keyE_iff (x : Ent) (u : ByteArray) : Go.Lib.compareBytes (fcE x) u.data.toList = 0 ↔ x.f0.toList = u.toList := by
  rw [cb_ord.zero]
  simp only [fcE, Go.ByteArray.toList_eq]
theorem bsE_ev (l : List Ent) (hl : (l.length : Int) ≤ 1048576) (u : ByteArray) (hr : Rsg (fun x => Go.Lib.compareBytes (fcE x) u.data.toList) l) :
    Ev (fun k => impl_Entry_string.f k l u) (((plc (fun x => Go.Lib.compareBytes (fcE x) u.data.toList) l : Nat) : Int), fnd (fun x => Go.Lib.compareBytes (fcE x) u.data.toList) l) := by
  have hp0 := plc_le (fun x => Go.Lib.compareBytes (fcE x) u.data.toList) l
  have go : ∀ (d i j : Nat), j = i + d → i ≤ plc (fun x => Go.Lib.compareBytes (fcE x) u.data.toList) l → plc (fun x => Go.Lib.compareBytes (fcE x) u.data.toList) l ≤ j → j ≤ l.length → Ev (fun k => impl_Entry_string.l0 k l u (l.length : Int) i j) (((plc (fun x => Go.Lib.compareBytes (fcE x) u.data.toList) l : Nat) : Int), fnd (fun x => Go.Lib.compareBytes (fcE x) u.data.toList) l) := by
    intro d
    induction d using Nat.strongRecOn with
    | _ d ih =>
    intro i j h1 h2 h3 h4
    refine Ev_suc ?_
    simp only [impl_Entry_string.l0]
    by_cases hd : d = 0
    · refine Ev_f (by omega) ?_
      have hp : plc (fun x => Go.Lib.compareBytes (fcE x) u.data.toList) l = i := by omega
      by_cases hn : i < l.length
      · refine Ev_t (by omega) (Ev_t (by omega) (Ev_t (by omega) ?_))
        rw [rdi_Entry l i hn, ep_ev]
        refine Ev_s (Ev_n ?_)
        unfold fnd
        rw [dif_pos (by omega)]
        simp only [hp]
        rfl
      · refine Ev_f (by omega) (Ev_n ?_)
        unfold fnd
        rw [dif_neg (by omega), hp]
    · refine Ev_t (by omega) ?_
      rw [mid_ev i j (by omega)]
      obtain ⟨m, hm⟩ : ∃ m, m = (i + j) / 2 := ⟨_, rfl⟩
      rw [← hm]
      have hm1 : m < l.length := by omega
      refine Ev_t (by omega) (Ev_t (by omega) ?_)
      rw [rdi_Entry l m hm1, ep_ev]
      refine Ev_s ?_
      by_cases hc : Go.Lib.compareBytes l[m].f0.data.toList u.data.toList < 0
      · refine Ev_t hc ?_
        rw [wr64s m (by omega)]
        refine ih (j - (m + 1)) (by omega) (m + 1) j (by omega) ?_ h3 h4
        rcases Nat.lt_or_ge m (plc (fun x => Go.Lib.compareBytes (fcE x) u.data.toList) l) with g | g
        · exact g
        · rcases Nat.lt_or_eq_of_le g with g | g
          · have hgt : 0 < Go.Lib.compareBytes (fcE l[m]) u.data.toList := hr.gt m hm1 g
            have hc' : Go.Lib.compareBytes (fcE l[m]) u.data.toList < 0 := hc
            omega
          · have := plc_at (fun x => Go.Lib.compareBytes (fcE x) u.data.toList) l (by omega)
            simp only [g] at this
            have hc' : Go.Lib.compareBytes (fcE l[m]) u.data.toList < 0 := hc
            omega
      · refine Ev_f hc ?_
        refine ih (m - i) (by omega) i m (by omega) h2 ?_ (by omega)
        rcases Nat.lt_or_ge m (plc (fun x => Go.Lib.compareBytes (fcE x) u.data.toList) l) with g | g
        · exact absurd (plc_lt _ l m hm1 g) hc
        · exact g
  simp only [impl_Entry_string.f]
  exact go l.length 0 l.length (by omega) (by omega) hp0 (Nat.le_refl _)
theorem findE_ev (l : List Ent) (hl : (l.length : Int) ≤ 1048576) (u : ByteArray) (hr : Rsg (fun x => Go.Lib.compareBytes (fcE x) u.data.toList) l) :
    Ev (fun k => spec_l27At.f k l u) (if fnd (fun x => Go.Lib.compareBytes (fcE x) u.data.toList) l = true then ((plc (fun x => Go.Lib.compareBytes (fcE x) u.data.toList) l : Nat) : Int) else -1) := by
  obtain ⟨c, hc⟩ : ∃ c, c = (fun x => Go.Lib.compareBytes (fcE x) u.data.toList) := ⟨_, rfl⟩
  rw [← hc] at hr ⊢
  have key : ∀ x, c x = 0 ↔ x.f0.toList = u.toList := fun x => by rw [hc]; exact keyE_iff x u
  have go : ∀ (d i : Nat), i + d = l.length → (∀ (j : Nat) (hj : j < l.length), j < i → c l[j] ≠ 0) → Ev (fun k => spec_l27At.l0 k l u i) (if fnd c l = true then ((plc c l : Nat) : Int) else -1) := by
    intro d
    induction d with
    | zero =>
      intro i h1 h2
      refine Ev_suc ?_
      simp only [spec_l27At.l0]
      refine Ev_f (by omega) (Ev_n ?_)
      rw [if_neg]
      intro h
      obtain ⟨hp, h0⟩ := fnd_t h
      exact h2 _ hp (by omega) h0
    | succ d ih =>
      intro i h1 h2
      refine Ev_suc ?_
      simp only [spec_l27At.l0]
      refine Ev_t (by omega) (Ev_t (by omega) ?_)
      rw [rdi_Entry l i (by omega), wr64s i (by omega)]
      have more : c l[i] ≠ 0 → Ev (fun k => spec_l27At.l0 k l u ((i + 1 : Nat) : Int)) (if fnd c l = true then ((plc c l : Nat) : Int) else -1) := fun hn =>
        ih (i + 1) (by omega) (fun j hj hji => by
          rcases Nat.lt_or_eq_of_le (Nat.le_of_lt_succ hji) with g | g
          · exact h2 j hj g
          · subst g; exact hn)
      by_cases e0 : l[i].f0.toList = u.toList
      · refine Ev_t e0 (Ev_n ?_)
        have hz := (key l[i]).2 e0
        have hp : plc c l = i := by
          rcases Nat.lt_trichotomy i (plc c l) with g | g | g
          · have := plc_lt c l i (by omega) g; omega
          · exact g.symm
          · have := hr.gt i (by omega) g; omega
        have hf : fnd c l = true := by
          unfold fnd
          rw [dif_pos (by omega)]
          simp only [hp, hz, decide_true]
        rw [if_pos hf, hp]
      · exact Ev_f e0 (more (fun h => e0 ((key _).1 h)))
  simp only [spec_l27At.f]
  exact go l.length 0 (by omega) (fun j _ hj => by omega)
theorem placeE_ev (l : List Ent) (hl : (l.length : Int) ≤ 1048576) (u : ByteArray) (hr : Rsg (fun x => Go.Lib.compareBytes (fcE x) u.data.toList) l) :
    Ev (fun k => impl_entryPlace.f k l u) (((plc (fun x => Go.Lib.compareBytes (fcE x) u.data.toList) l : Nat) : Int), fnd (fun x => Go.Lib.compareBytes (fcE x) u.data.toList) l) := by
  simp only [impl_entryPlace.f]
  exact Ev_b (bsE_ev l hl u hr) (Ev_n rfl)
theorem Sta.rsg {m : List Ent} (h : Sta m) (t : List UInt8) : Rsg (fun x => Go.Lib.compareBytes (fcE x) t) m := rsg_of cb_ord fcE h.2.1 t
theorem ven_ne {l : List UInt8} {a b : Int} (h : vVen l a b = true) : l ≠ [] := by
  intro e
  subst e
  simp [vVen, spi] at h
def difV (x y : Ent) : Bool := (!((x.f1.f0.toList) == (y.f1.f0.toList)) || (!((x.f1.f1) == (y.f1.f1)) || (!((x.f1.f2) == (y.f1.f2)))))
theorem diff_ev (a b : List Ent) (ha : (a.length : Int) ≤ 1048576) (hb : (b.length : Int) ≤ 1048576) : ∃ r c, r.length ≤ 1048576 ∧ Ev (fun k => spec_DiffStates.f k a b) (r, c) ∧ Ev (fun k => impl_DiffStates.f k a b) (r, c) := by
  obtain ⟨oa, a1, a2, a3⟩ := state_ev a ha
  cases oa with
  | false =>
    refine ⟨[], 1, by simp, ?_, ?_⟩
    · simp only [spec_DiffStates.f]; refine Ev_b a1 (Ev_f (by decide) (Ev_suc ?_)); simp only [spec_DiffStates.j0]; exact Ev_t (by first | exact True.intro | rfl) (Ev_n rfl)
    · simp only [impl_DiffStates.f]; refine Ev_b a2 (Ev_f (by decide) (Ev_suc ?_)); simp only [impl_DiffStates.j0]; exact Ev_t (by first | exact True.intro | rfl) (Ev_n rfl)
  | true =>
    obtain ⟨ob, b1, b2, b3⟩ := state_ev b hb
    cases ob with
    | false =>
      refine ⟨[], 1, by simp, ?_, ?_⟩
      · simp only [spec_DiffStates.f]; refine Ev_b a1 (Ev_t rfl (Ev_b b1 (Ev_suc ?_))); simp only [spec_DiffStates.j0]; exact Ev_t rfl (Ev_n rfl)
      · simp only [impl_DiffStates.f]; refine Ev_b a2 (Ev_t rfl (Ev_b b2 (Ev_suc ?_))); simp only [impl_DiffStates.j0]; exact Ev_t rfl (Ev_n rfl)
    | true =>
      have sa := a3 rfl
      have sb := b3 rfl
      have la := sa.1
      have lb := sb.1
      have two : ∀ (d i : Nat) (out : List S87), i + d = b.length → out.length ≤ 24 + i → ∃ r, r.length ≤ 48 ∧ Ev (fun k => spec_DiffStates.l1 k a b out i) (r, 0) ∧ Ev (fun k => impl_DiffStates.l1 k a out b (b.length : Int) i) (r, 0) := by
        intro d
        induction d with
        | zero =>
          intro i out h1 h2
          refine ⟨out, by omega, Ev_suc ?_, Ev_suc ?_⟩
          · simp only [spec_DiffStates.l1]; exact Ev_f (by omega) (Ev_n rfl)
          · simp only [impl_DiffStates.l1]; exact Ev_f (by omega) (Ev_n rfl)
        | succ d ih =>
          intro i out h1 h2
          have hi : i < b.length := by omega
          have rb := rdi_Entry b i hi
          have w := wr64s i (by omega)
          obtain ⟨c, hc⟩ : ∃ c, c = (fun x => Go.Lib.compareBytes (fcE x) b[i].f0.data.toList) := ⟨_, rfl⟩
          have f1 := findE_ev a ha b[i].f0 (sa.rsg _)
          have f2 := placeE_ev a ha b[i].f0 (sa.rsg _)
          rw [← hc] at f1 f2
          have hv := sb.2.2 b[i] (List.getElem_mem _)
          obtain ⟨r, r1, r2, r3⟩ := ih (i + 1) (out ++ [(⟨1, (⟨b[i].f0, (⟨b[i].f1.f0, b[i].f1.f1, b[i].f1.f2⟩ : S69)⟩ : Ent)⟩ : S87)]) (by omega) (by simp; omega)
          cases hf : fnd c a with
          | false =>
            rw [hf, if_neg (by decide)] at f1
            rw [hf] at f2
            refine ⟨r, r1, Ev_suc ?_, Ev_suc ?_⟩
            · simp only [spec_DiffStates.l1]
              rw [rb, w]
              exact Ev_t (by omega) (Ev_t (by omega) (Ev_b f1 (Ev_t (by decide) (Ev_t (by omega) r2))))
            · have f3 : Ev (fun k => impl_veneerAt.f k a b[i].f0) ((⟨#[]⟩ : ByteArray), 0, 0) := by
                simp only [impl_veneerAt.f]
                exact Ev_b f2 (Ev_f (by simp) (Ev_n rfl))
              simp only [impl_DiffStates.l1]
              rw [rb, w]
              refine Ev_t (by omega) (Ev_t (by omega) (Ev_t (by omega) (Ev_b f3 (Ev_t ?_ (Ev_t (by omega) r3)))))
              have hne : ¬ ((⟨#[]⟩ : ByteArray).toList == b[i].f1.f0.toList) = true := by
                intro h
                have h := eq_of_beq h
                have h0 : (⟨#[]⟩ : ByteArray).toList = [] := by rw [Go.ByteArray.toList_eq]
                exact ven_ne hv (h.symm.trans h0)
              simp only [Bool.not_eq_true] at hne
              rw [hne]
              rfl
          | true =>
            obtain ⟨hp, h0⟩ := fnd_t hf
            rw [hf, if_pos rfl] at f1
            rw [hf] at f2
            have ra := rdi_Entry a (plc c a) hp
            have hface : (a[plc c a]'hp).f0.toList = b[i].f0.toList := by
              have cEq : ∀ y, c y = Go.Lib.compareBytes (fcE y) b[i].f0.data.toList := fun y => by rw [hc]
              rw [cEq] at h0
              exact (keyE_iff _ _).1 h0
            have f3 : Ev (fun k => impl_veneerAt.f k a b[i].f0) ((a[plc c a]'hp).f1.f0, (a[plc c a]'hp).f1.f1, (a[plc c a]'hp).f1.f2) := by
              simp only [impl_veneerAt.f]
              refine Ev_b f2 (Ev_t rfl (Ev_t (by show (0 : Int) ≤ _; omega) (Ev_t (by show _ < (a.length : Int); omega) (Ev_n ?_))))
              simp only
              rw [ra]
            by_cases hd : difV (a[plc c a]'hp) b[i] = true
            · refine ⟨r, r1, Ev_suc ?_, Ev_suc ?_⟩
              · simp only [spec_DiffStates.l1]
                rw [rb, w]
                refine Ev_t (by omega) (Ev_t (by omega) (Ev_b f1 (Ev_f (by omega) (Ev_t (by omega) (Ev_t (by omega) (Ev_t ?_ (Ev_t (by omega) r2)))))))
                rw [ra, hface]
                simpa [difV] using hd
              · simp only [impl_DiffStates.l1]
                rw [rb, w]
                exact Ev_t (by omega) (Ev_t (by omega) (Ev_t (by omega) (Ev_b f3 (Ev_t hd (Ev_t (by omega) r3)))))
            · obtain ⟨r', r1', r2', r3'⟩ := ih (i + 1) out (by omega) (by omega)
              refine ⟨r', r1', Ev_suc ?_, Ev_suc ?_⟩
              · simp only [spec_DiffStates.l1]
                rw [rb, w]
                refine Ev_t (by omega) (Ev_t (by omega) (Ev_b f1 (Ev_f (by omega) (Ev_t (by omega) (Ev_t (by omega) (Ev_f ?_ r2'))))))
                rw [ra, hface]
                simpa [difV] using hd
              · simp only [impl_DiffStates.l1]
                rw [rb, w]
                exact Ev_t (by omega) (Ev_t (by omega) (Ev_t (by omega) (Ev_b f3 (Ev_f hd r3'))))
      have one : ∀ (d i : Nat) (out : List S87), i + d = a.length → out.length ≤ i → ∃ r, r.length ≤ 48 ∧ Ev (fun k => spec_DiffStates.l0 k a b out i) (r, 0) ∧ Ev (fun k => impl_DiffStates.l0 k a b out a (a.length : Int) i) (r, 0) := by
        intro d
        induction d with
        | zero =>
          intro i out h1 h2
          obtain ⟨r, r1, r2, r3⟩ := two b.length 0 out (by omega) (by omega)
          refine ⟨r, r1, Ev_suc ?_, Ev_suc ?_⟩
          · simp only [spec_DiffStates.l0]; exact Ev_f (by omega) r2
          · simp only [impl_DiffStates.l0]; exact Ev_f (by omega) r3
        | succ d ih =>
          intro i out h1 h2
          have hi : i < a.length := by omega
          have ra := rdi_Entry a i hi
          have w := wr64s i (by omega)
          have f1 := findE_ev b hb a[i].f0 (sb.rsg _)
          have f2 := placeE_ev b hb a[i].f0 (sb.rsg _)
          cases hf : fnd (fun x => Go.Lib.compareBytes (fcE x) a[i].f0.data.toList) b with
          | false =>
            rw [hf, if_neg (by decide)] at f1
            rw [hf] at f2
            obtain ⟨r, r1, r2, r3⟩ := ih (i + 1) (out ++ [(⟨2, (⟨a[i].f0, (⟨a[i].f1.f0, a[i].f1.f1, a[i].f1.f2⟩ : S69)⟩ : Ent)⟩ : S87)]) (by omega) (by simp; omega)
            refine ⟨r, r1, Ev_suc ?_, Ev_suc ?_⟩
            · simp only [spec_DiffStates.l0]
              rw [ra, w]
              exact Ev_t (by omega) (Ev_t (by omega) (Ev_b f1 (Ev_t (by decide) (Ev_t (by omega) r2))))
            · simp only [impl_DiffStates.l0]
              rw [ra, w]
              exact Ev_t (by omega) (Ev_t (by omega) (Ev_t (by omega) (Ev_b f2 (Ev_f (by simp) (Ev_t (by omega) r3)))))
          | true =>
            rw [hf, if_pos rfl] at f1
            rw [hf] at f2
            obtain ⟨r, r1, r2, r3⟩ := ih (i + 1) out (by omega) (by omega)
            refine ⟨r, r1, Ev_suc ?_, Ev_suc ?_⟩
            · simp only [spec_DiffStates.l0]
              rw [ra, w]
              exact Ev_t (by omega) (Ev_t (by omega) (Ev_b f1 (Ev_f (by omega) r2)))
            · simp only [impl_DiffStates.l0]
              rw [ra, w]
              exact Ev_t (by omega) (Ev_t (by omega) (Ev_t (by omega) (Ev_b f2 (Ev_t rfl r3))))
      obtain ⟨r, r1, r2, r3⟩ := one a.length 0 [] (by omega) (by simp)
      refine ⟨r, 0, by omega, ?_, ?_⟩
      · simp only [spec_DiffStates.f]; refine Ev_b a1 (Ev_t rfl (Ev_b b1 (Ev_suc ?_))); simp only [spec_DiffStates.j0]; exact Ev_f (by decide) r2
      · simp only [impl_DiffStates.f]; refine Ev_b a2 (Ev_t rfl (Ev_b b2 (Ev_suc ?_))); simp only [impl_DiffStates.j0]; exact Ev_f (by decide) r3
end Go.Proofs.Ythnigkbbmhnafaa.Q
namespace Go.Proofs.Ythnigkbbmhnafaa.Q
open Go.RowKit Go.Proofs.YthnigkbbmhnafaaW.PrintWords Go.Proofs.YthnigkbbmhnafaaW.PrintLast Go.Proofs.YthnigkbbmhnafaaW.PrintMore
set_option linter.unusedVariables false
theorem law_DiffStates : laws_FnExactDiffStates.Pure := by
  intro x x2 hx hx2
  have hM : maxLen = 9223372036854775807 := by decide
  refine Ev.rounds (r := true) ?_
  simp only [laws_FnExactDiffStates.f]
  refine Ev_b (szS_Entry x hx.1 hx.2 (1048576) (by omega) (by omega)) ?_
  by_cases cx : ((ZS_Entry x : Nat) : Int) ≤ 1048576
  case neg => rw [cut_neg cx]; exact Ev_t (by decide) (Ev_n rfl)
  rw [cut_pos cx]
  refine Ev_f (by omega) ?_
  refine Ev_b (szS_Entry x2 hx2.1 hx2.2 (1048576 - ((ZS_Entry x : Nat) : Int)) (by omega) (by omega)) ?_
  by_cases cx2 : ((ZS_Entry x2 : Nat) : Int) ≤ 1048576 - ((ZS_Entry x : Nat) : Int)
  case neg => rw [cut_neg cx2]; exact Ev_t (by decide) (Ev_n rfl)
  rw [cut_pos cx2]
  refine Ev_f (by omega) ?_
  have nx : (x.length : Int) ≤ 1048576 := by have := (ZS_in_Entry x).1; omega
  have bx : ∀ q_ ∈ x, B_Entry q_ := fun q_ hq_ => B_of_Entry q_ (by have := (ZS_in_Entry x).2 q_ hq_; omega)
  have mx : ((x.map conv_Entry).length : Int) ≤ 1048576 := by simpa using nx
  have Ex : ∀ q_ ∈ x.map conv_Entry, E_Entry q_ := fun y hy => by obtain ⟨u, hu, rfl⟩ := List.mem_map.1 hy; exact E_of_Entry u (bx u hu)
  have tx := toS_Entry x nx bx
  have qx := eqS_Entry (x.map conv_Entry) mx Ex
  have zx : ∀ q_ ∈ x.map conv_Entry, ∃ u ∈ x, conv_Entry u = q_ ∧ ((Z_Entry u : Nat) : Int) ≤ 1048576 := fun y hy => by obtain ⟨u, hu, e⟩ := List.mem_map.1 hy; exact ⟨u, hu, e, by have := (ZS_in_Entry x).2 u hu; omega⟩
  have nx2 : (x2.length : Int) ≤ 1048576 := by have := (ZS_in_Entry x2).1; omega
  have bx2 : ∀ q_ ∈ x2, B_Entry q_ := fun q_ hq_ => B_of_Entry q_ (by have := (ZS_in_Entry x2).2 q_ hq_; omega)
  have mx2 : ((x2.map conv_Entry).length : Int) ≤ 1048576 := by simpa using nx2
  have Ex2 : ∀ q_ ∈ x2.map conv_Entry, E_Entry q_ := fun y hy => by obtain ⟨u, hu, rfl⟩ := List.mem_map.1 hy; exact E_of_Entry u (bx2 u hu)
  have tx2 := toS_Entry x2 nx2 bx2
  have qx2 := eqS_Entry (x2.map conv_Entry) mx2 Ex2
  have zx2 : ∀ q_ ∈ x2.map conv_Entry, ∃ u ∈ x2, conv_Entry u = q_ ∧ ((Z_Entry u : Nat) : Int) ≤ 1048576 := fun y hy => by obtain ⟨u, hu, e⟩ := List.mem_map.1 hy; exact ⟨u, hu, e, by have := (ZS_in_Entry x2).2 u hu; omega⟩
  obtain ⟨r0, r1, E0, e1, e2⟩ := diff_ev (x.map conv_Entry) (x2.map conv_Entry) mx mx2
  have qr0 := eqS_Change r0 (by omega) (by first | exact E_r0 | (intro y _; trivial))
  obtain ⟨px, _, mmx, _⟩ := mk_Entry (x.map conv_Entry) (1) (by omega) (by omega) (by omega)
  obtain ⟨px2, _, mmx2, _⟩ := mk_Entry (x2.map conv_Entry) (1 + 4 * ((x.map conv_Entry).length : Int)) (by omega) (by omega) (by omega)
  obtain ⟨pr0, _, mr0, hr0⟩ := mk_Change r0 1 (by omega) (by omega) (by omega)
  repeat' (first | ((first | (with_reducible refine Ev_b e1 ?_) | (with_reducible refine Ev_b e2 ?_) | (with_reducible refine Ev_b tx ?_) | (with_reducible refine Ev_b qx ?_) | (with_reducible refine Ev_b tx2 ?_) | (with_reducible refine Ev_b qx2 ?_) | (with_reducible refine Ev_b qr0 ?_) | (with_reducible refine Ev_b mmx ?_) | (with_reducible refine Ev_b mmx2 ?_) | (with_reducible refine Ev_b mr0 ?_) | (with_reducible refine Ev_b hr0 ?_)); try dsimp only) | (with_reducible refine Ev_t rfl ?_) | (with_reducible refine Ev_t True.intro ?_) | (refine Ev_f (by omega) ?_) | (refine Ev_t (by omega) ?_) | (refine Ev_f (by simp) ?_) | exact Ev_n rfl | (refine Ev_suc ?_; first | simp only [laws_FnExactDiffStates.j0] | simp only [laws_FnExactDiffStates.j1] | simp only [laws_FnExactDiffStates.j2]))
end Go.Proofs.Ythnigkbbmhnafaa.Q
namespace Go.Proofs.Ythnigkbbmhnafaa.Pure
open Go.Proofs.Ythnigkbbmhnafaa.Q
theorem FnExactDiffStates : laws_FnExactDiffStates.Pure := law_DiffStates
end Go.Proofs.Ythnigkbbmhnafaa.Pure
namespace Go.Proofs.Ythnigkbbmhnafaa.fnExactDiffStates
open Go.ChangeShapes Go.WideShapes Go.ChangeAt Go.RowKit Go.Proofs.Ythnigkbbmhnafaa.OPN Go.Proofs.Ythnigkbbmhnafaa.Q Go.Proofs.YthnigkbbmhnafaaW.PrintWords
open Go.ChangeMaps (open_string shut_string)
set_option linter.unusedVariables false
theorem own : ownKnob Try.prog.godebug = none := by kernel_rfl
theorem laidOut : laidOutB Try.prog = true := by kernel_rfl
set_option maxRecDepth 100000 in
theorem lifted (os : Os) (started : os.Started) (H : Type) (enc : TypeId × Value → H) :
    ReturnsInHanded {} Try.checked os 7 .any (Rows.fnExactDiffStatesSpec.pre6 enc Try.prog Try.f7 Rows.fnExactDiffStatesRow.domain false) (Rows.fnExactDiffStatesSpec.post enc Try.prog Try.f7 false true false false) := by
  refine returnsInHanded_of_change_sized (C := Try.checked) own started (by kernel_rfl) Try.func7
    (ChangeSpec.witness6 (enc := enc) (C := Try.checked) false ⟨#[], #[.slice none 0 0, .slice none 0 0], []⟩ 8 (by kernel_rfl) (by kernel_rfl) (by kernel_rfl) (by kernel_rfl)) ?_
  intro W base args ds gs before hval0 hW hcnd hsz0 _
  have hval : ∀ (j : Nat) t v, Try.f7.params[j]? = some t → args[j]? = some v → Value.okWide Try.prog W .any base t v := hval0
  have hW' := hW
  obtain ⟨p, q, hA0, hV, rfl, hfz, hnd⟩ := hW
  have hA : DataW.TrodAll enc Try.prog W 0 (fun _ => true) true Try.f7.params.toList args.toList ds p := hA0
  rw [Try.params7] at hA hval
  obtain ⟨v0, vs0, d0, ds0, p0, q0, hargs, rfl, rfl, h0, r0⟩ := trodAll_cons hA
  obtain ⟨v1, vs1, d1, ds1, p1, q1, rfl, rfl, rfl, h1, r1⟩ := trodAll_cons r0
  obtain ⟨rfl, rfl, rfl⟩ := trodAll_nil r1
  obtain rfl : args = #[v0, v1] := by cases args; simp_all
  obtain ⟨rfl, rfl⟩ := trodVars_none hV
  have lt0 : ∀ x ∈ p0, x.block < W.heap.size := by obtain ⟨m, hm⟩ := h0; exact DataW.trod_lt m _ _ _ hm
  have k0 := h0
  obtain ⟨z0, y0, u0, rfl⟩ := okWide_slice Try.underlying22 (hval 0 22 v0 rfl rfl)
  obtain ⟨fu0, hf0⟩ := h0
  obtain ⟨x0, ⟨A0, c0, hcs0, hc0, hr0⟩, w0⟩ := ((opn_slice Try.underlying22 (by kernel_rfl) opn68) : Opn _ _ (Kd.slice 68 k68) _).get rfl hf0
  obtain ⟨rfl, rfl, rfl⟩ : A0 = z0 ∧ x0.length = y0 ∧ c0 = u0 := (fun (h_ : z0 = A0 ∧ y0 = x0.length ∧ u0 = c0) => ⟨h_.1.symm, h_.2.1.symm, h_.2.2.symm⟩) (by simpa [Value.cells] using hcs0)
  have lt1 : ∀ x ∈ p1, x.block < W.heap.size := by obtain ⟨m, hm⟩ := h1; exact DataW.trod_lt m _ _ _ hm
  have k1 := h1
  obtain ⟨z1, y1, u1, rfl⟩ := okWide_slice Try.underlying22 (hval 1 22 v1 rfl rfl)
  obtain ⟨fu1, hf1⟩ := h1
  obtain ⟨x1, ⟨A1, c1, hcs1, hc1, hr1⟩, w1⟩ := ((opn_slice Try.underlying22 (by kernel_rfl) opn68) : Opn _ _ (Kd.slice 68 k68) _).get rfl hf1
  obtain ⟨rfl, rfl, rfl⟩ : A1 = z1 ∧ x1.length = y1 ∧ c1 = u1 := (fun (h_ : z1 = A1 ∧ y1 = x1.length ∧ u1 = c1) => ⟨h_.1.symm, h_.2.1.symm, h_.2.2.symm⟩) (by simpa [Value.cells] using hcs1)
  clear hA0 hval0 hsz0
  obtain ⟨k, hP⟩ := Pure.FnExactDiffStates x0 x1 w0 w1
  refine (laws_FnExactDiffStates.calls k A0 c0 x0 A1 c1 x1 true W hr0 hc0 hr1 hc1 hP).mono fun e W' hh => ?_
  obtain ⟨rfl, bel0⟩ := hh
  have bel : Below W.heap.size W W' := bel0
  exact ⟨_, rfl, _, _, _, [], _, [], hW', trodAll_mk1 (shut_bool Try.underlying4 _), (trodAll_cons_mk (Below.trod laidOut (by kernel_rfl) (of_decide_eq_true (by kernel_rfl)) k0 bel lt0) (trodAll_cons_mk (Below.trod laidOut (by kernel_rfl) (of_decide_eq_true (by kernel_rfl)) k1 bel lt1) trodAll_mk0)), rfl, bel.frame _, fun h => by cases h⟩
theorem over : Rows.fnExactDiffStatesRow.holds Try.pinned (OpenSpec.ofChange Rows.fnExactDiffStatesSpec) :=
  OpenClaim.holds_of_wide 7 Try.f7 rfl rfl rfl rfl rfl rfl rfl ⟨rfl, rfl, rfl, rfl, rfl⟩ rfl rfl rfl rfl rfl (by kernel_rfl) Try.func7 (by kernel_rfl)
    (of_decide_eq_true (by kernel_rfl)) (by unfold Func.isWrapper; first | (rw [if_pos (by decide +kernel)]; kernel_rfl) | (rw [if_neg (by decide +kernel)]; exact ⟨rfl, rfl⟩))
    (fun os started H enc _ => lifted os started H enc)
theorem proved : Rows.FnExactDiffStatesSaid := over
#print axioms proved
end Go.Proofs.Ythnigkbbmhnafaa.fnExactDiffStates
namespace Go.Proofs.Ythnigkbbmhnafaa
theorem fnExactDiffStates_holds : Rows.FnExactDiffStatesSaid := fnExactDiffStates.proved
end Go.Proofs.Ythnigkbbmhnafaa
