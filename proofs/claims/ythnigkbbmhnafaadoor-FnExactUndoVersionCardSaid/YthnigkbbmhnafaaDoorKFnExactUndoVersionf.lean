/- For every list of versions and number, the law FnExactUndoVersion returns true: the program adds the same version as the reference, in memory of its own. Condition: the library tables that the row lists hold what the program lays in them, as the tied card says. This text holds the last walks, the plain law and the row. -/
import Derived.Lib.Bytealg
import Derived.Lib.ItoaLen
import Derived.Lib.SplitLaws
import Derived.HandedShaped
import Derived.Test.YthnigkbbmhnafaaDoorRows
import Derived.Test.YthnigkbbmhnafaaDoorCards
import Derived.Test.YthnigkbbmhnafaaDoorTie
import Derived.Stop.LaidErr
import Derived.LaidMore
import Derived.Lay
import Derived.SevenTiedAt
import Derived.Stop.Joined
import Derived.Lib.LaidTab
import Derived.WalkKit
import Derived.ProofKit
import Derived.OpenShut
import Derived.ShutString
import Derived.ChangeOld
import Derived.Below
import Derived.SizedLaws
import Derived.Carry
import Derived.Test.YthnigkbbmhnafaaDoorKFnExactUndoVersiona
import Derived.Test.YthnigkbbmhnafaaDoorKFnExactUndoVersione
import Derived.Test.YthnigkbbmhnafaaDoorKFnExactUndoVersionc
import Derived.Test.YthnigkbbmhnafaaDoorKFnExactUndoVersiond
import Derived.Test.YthnigkbbmhnafaaDoorKFnExactUndoVersionb
set_option linter.unusedVariables false
set_option linter.unusedSimpArgs false
namespace Go.Proofs.YthnigkbbmhnafaaDoor.Q
open Go.RowKit Go.Proofs.YthnigkbbmhnafaaDoorW.PrintWords Go.Proofs.YthnigkbbmhnafaaDoorW.PrintLast Go.Proofs.YthnigkbbmhnafaaDoorW.PrintMore
theorem wr64 {x : Int} (h0 : -9223372036854775808 ≤ x) (h1 : x < 9223372036854775808) : wrap64 x = x := by unfold wrap64; omega
theorem wr64s (i : Nat) (h : (i : Int) < 9223372036854775807) : wrap64 ((i : Int) + 1) = ((i + 1 : Nat) : Int) := by rw [wr64 (by omega) (by omega)]; omega
theorem Ev_suc {α : Type} {g : Nat → Option α} {r : α} (h : Ev (fun k => g (k + 1)) r) : Ev g r := by
  obtain ⟨K, hK⟩ := h
  refine ⟨K + 1, fun k hk => ?_⟩
  obtain ⟨m, rfl⟩ : ∃ m, k = m + 1 := ⟨k - 1, by omega⟩
  exact hK m (by omega)
theorem Ev_t {α : Type} {c : Prop} [Decidable c] {f g : Nat → Option α} {r : α} (h : c) (k : Ev f r) : Ev (fun n => if c then f n else g n) r := by
  obtain ⟨K, hK⟩ := k
  exact ⟨K, fun n hn => (if_pos h).trans (hK n hn)⟩
theorem Ev_f {α : Type} {c : Prop} [Decidable c] {f g : Nat → Option α} {r : α} (h : ¬ c) (k : Ev g r) : Ev (fun n => if c then f n else g n) r := by
  obtain ⟨K, hK⟩ := k
  exact ⟨K, fun n hn => (if_neg h).trans (hK n hn)⟩
theorem Ev_b {α β : Type} {g : Nat → Option α} {f : Nat → α → Option β} {a : α} {r : β} (h : Ev g a) (k : Ev (fun n => f n a) r) : Ev (fun n => (g n).bind (fun x => f n x)) r := Ev.bind h k
theorem Ev_s {α β : Type} {a : α} {f : Nat → α → Option β} {r : β} (k : Ev (fun n => f n a) r) : Ev (fun n => (some a).bind (fun x => f n x)) r := k
theorem Ev_n {α : Type} {a r : α} (h : a = r) : Ev (fun _ => some a) r := ⟨0, fun _ _ => by rw [h]⟩
theorem Ev_c {α : Type} {o : Option α} {r : α} (h : o = some r) : Ev (fun _ => o) r := ⟨0, fun _ _ => h⟩
theorem Ev_at {α : Type} {g : Nat → Option α} {r r' : α} (h : Ev g r) (e : r = r') : Ev g r' := e ▸ h
def cut (c s : Int) : Int := if s ≤ c then c - s else -1
theorem cut_pos {c s : Int} (h : s ≤ c) : cut c s = c - s := by unfold cut; rw [if_pos h]
theorem cut_neg {c s : Int} (h : ¬ s ≤ c) : cut c s = -1 := by unfold cut; rw [if_neg h]
theorem set_take' {α : Type} (xs : List α) (i : Nat) (m : α) (h : i < xs.length) : (xs.set i m).take (i + 1) = xs.take i ++ [m] := by
  rw [List.take_succ_eq_append_getElem (by simpa using h)]
  congr 1
  · rw [List.take_set_of_le (Nat.le_refl _)]
  · simp
theorem getD_in {α : Type} (l : List α) (z : α) (i : Nat) (h : i < l.length) : l.getD ((i : Int).toNat) z = l[i] := by simp [List.getD, h]
theorem getD_at {α : Type} (p q : List α) (z x : α) (i : Nat) (h : p.length = i) : (p ++ x :: q).getD ((i : Int).toNat) z = x := by subst h; simp [List.getD]
theorem set_at {α : Type} (p q : List α) (x y : α) (i : Nat) (h : p.length = i) : (p ++ x :: q).set ((i : Int).toNat) y = p ++ y :: q := by subst h; simp
theorem sum_le {α : Type} (f : α → Nat) : ∀ (l : List α) (x : α), x ∈ l → f x ≤ (l.map f).sum
  | a :: l, x, h => by
    rw [List.map_cons, List.sum_cons]
    rcases List.mem_cons.1 h with rfl | h
    · omega
    · have := sum_le f l x h; omega
end Go.Proofs.YthnigkbbmhnafaaDoor.Q
namespace Go.Proofs.YthnigkbbmhnafaaDoor.Q
open Go.RowKit Go.Proofs.YthnigkbbmhnafaaDoorW.PrintWords Go.Proofs.YthnigkbbmhnafaaDoorW.PrintLast Go.Proofs.YthnigkbbmhnafaaDoorW.PrintMore
theorem markText_ev (c : Int) (h0 : 0 ≤ c) (h1 : c ≤ 1000000000000000000) : ∃ t, Ev (fun k => laws_markText.f k c) t := by
  have go : ∀ (d : Nat) (c : Int) (s : ByteArray), 0 ≤ c → c < 10 ^ d → c ≤ 1000000000000000000 → s.size + d ≤ 1000 → ∃ t, Ev (fun k => laws_markText.l0 k c s) t := by
    intro d
    induction d with
    | zero =>
      intro c s h0 h1 h2 h3
      refine ⟨(⟨#[109]⟩ : ByteArray) ++ s, Ev_suc ?_⟩
      simp only [laws_markText.l0]
      refine Ev_f (by simp at h1; omega) (Ev_t (by omega) (Ev_n rfl))
    | succ d ih =>
      intro c s h0 h1 h2 h3
      by_cases hc : c > 0
      · have e1 : (strOfNums [(wrap64 (48 + Int.tmod c 10)) % 256]).size = 1 := rfl
        have e2 : wrap64 (Int.tdiv c 10) = c / 10 := by rw [Int.tdiv_eq_ediv_of_nonneg h0, wr64 (by omega) (by omega)]
        obtain ⟨t, ht⟩ := ih (c / 10) (strOfNums [(wrap64 (48 + Int.tmod c 10)) % 256] ++ s) (by omega) (by rw [Int.pow_succ] at h1; omega) (by omega) (by rw [ByteArray.size_append, e1]; omega)
        refine ⟨t, Ev_suc ?_⟩
        simp only [laws_markText.l0]
        refine Ev_t hc (Ev_s (Ev_t (by rw [e1]; omega) ?_))
        rw [e2]
        exact ht
      · refine ⟨(⟨#[109]⟩ : ByteArray) ++ s, Ev_suc ?_⟩
        simp only [laws_markText.l0]
        refine Ev_f hc (Ev_t (by omega) (Ev_n rfl))
  by_cases hc : c ≤ 0
  · refine ⟨(⟨#[109, 48]⟩ : ByteArray), ?_⟩
    simp only [laws_markText.f]
    exact Ev_t hc (Ev_n rfl)
  · obtain ⟨t, ht⟩ := go 19 c (⟨#[]⟩ : ByteArray) h0 (by omega) h1 (by simp [ByteArray.size])
    refine ⟨t, ?_⟩
    simp only [laws_markText.f]
    exact Ev_f hc ht
end Go.Proofs.YthnigkbbmhnafaaDoor.Q
namespace Go.Proofs.YthnigkbbmhnafaaDoor.Q
open Go.RowKit Go.Proofs.YthnigkbbmhnafaaDoorW.PrintWords Go.Proofs.YthnigkbbmhnafaaDoorW.PrintLast Go.Proofs.YthnigkbbmhnafaaDoorW.PrintMore
set_option linter.unusedVariables false
set_option linter.unusedSimpArgs false
def Z_Veneer (x : S61) : Nat := x.f0.size
theorem sz_Veneer (x : S61) (hw : W61 x) (c : Int) (h0 : 0 ≤ c) (h1 : c ≤ 1048576) : Ev (fun k => laws_szVeneer.f (x.f0) (x.f1) (x.f2) c) (cut c (Z_Veneer x)) := by
  have hM : maxLen = 9223372036854775807 := by decide
  unfold W61 at hw
  obtain ⟨w0, w1, w2⟩ := hw
  simp only [laws_szVeneer.f]
  have b0 : x.f0.size ≤ maxLen := w0
  rw [hM] at b0
  have e0 : wrap64 (c - ((x.f0.size : Nat) : Int)) = c - ((x.f0.size : Nat) : Int) := wr64 (by omega) (by omega)
  simp only [e0]
  by_cases g0 : c - ((x.f0.size : Nat) : Int) < 0
  · rw [cut_neg (by unfold Z_Veneer; omega)]; exact Ev_t g0 (Ev_n rfl)
  refine Ev_f g0 ?_
  obtain ⟨c0, hc0⟩ : ∃ z_, z_ = c - ((x.f0.size : Nat) : Int) := ⟨_, rfl⟩
  simp only [← hc0]
  rw [cut_pos (by unfold Z_Veneer; omega)]
  exact Ev_n (by unfold Z_Veneer; omega)
def conv_Veneer (x : S61) : S48 := ⟨x.f0, x.f1, x.f2⟩
def B_Veneer (x : S61) : Prop := True
theorem B_of_Veneer (x : S61) (h : (Z_Veneer x : Int) ≤ 1048576) : B_Veneer x := by
  unfold Z_Veneer at h
  unfold B_Veneer
  trivial
theorem to_Veneer (x : S61) (hb : B_Veneer x) : Ev (fun k => laws_toVeneer.f (x.f0) (x.f1) (x.f2)) ((conv_Veneer x).f0, (conv_Veneer x).f1, (conv_Veneer x).f2) := by
  unfold B_Veneer at hb
  simp only [laws_toVeneer.f]
  exact Ev_n rfl
def E_Veneer (x : S48) : Prop := True
theorem E_of_Veneer (x : S61) (hb : B_Veneer x) : E_Veneer (conv_Veneer x) := by
  unfold B_Veneer at hb
  unfold E_Veneer
  exact trivial
theorem eq_Veneer (x : S48) (he : E_Veneer x) : Ev (fun k => laws_eqVeneer.f (x.f0) (x.f1) (x.f2) (x.f0) (x.f1) (x.f2)) true := by
  unfold E_Veneer at he
  simp only [laws_eqVeneer.f, if_true]
  exact Ev_n rfl
theorem rdl_Entry (l : List S63) (i : Nat) (h : i < l.length) : rd_T63 l (i : Int) = l[i] := by unfold rd_T63; exact getD_in l _ i h
theorem rdi_Entry (l : List S50) (i : Nat) (h : i < l.length) : rd_T50 l (i : Int) = l[i] := by unfold rd_T50; exact getD_in l _ i h
theorem rda_Entry (a b : List S50) (x : S50) (i : Nat) (h : a.length = i) : rd_T50 (a ++ x :: b) (i : Int) = x := by unfold rd_T50; exact getD_at a b _ x i h
def Z_Entry (x : S63) : Nat := x.f0.size + (Z_Veneer x.f1)
def ZS_Entry (l : List S63) : Nat := l.length + (l.map Z_Entry).sum
theorem ZS_in_Entry (l : List S63) : l.length ≤ ZS_Entry l ∧ ∀ y ∈ l, Z_Entry y ≤ ZS_Entry l := ⟨by unfold ZS_Entry; omega, fun y hy => by have := sum_le Z_Entry l y hy; unfold ZS_Entry; omega⟩
theorem sz_Entry (x : S63) (hw : W63 x) (c : Int) (h0 : 0 ≤ c) (h1 : c ≤ 1048576) : Ev (fun k => laws_szEntry.f (x.f0) (x.f1.f0) (x.f1.f1) (x.f1.f2) c) (cut c (Z_Entry x)) := by
  have hM : maxLen = 9223372036854775807 := by decide
  unfold W63 at hw
  obtain ⟨w0, w1⟩ := hw
  simp only [laws_szEntry.f]
  have b0 : x.f0.size ≤ maxLen := w0
  rw [hM] at b0
  have e0 : wrap64 (c - ((x.f0.size : Nat) : Int)) = c - ((x.f0.size : Nat) : Int) := wr64 (by omega) (by omega)
  simp only [e0]
  by_cases g0 : c - ((x.f0.size : Nat) : Int) < 0
  · rw [cut_neg (by unfold Z_Entry; omega)]; exact Ev_t g0 (Ev_n rfl)
  refine Ev_f g0 ?_
  obtain ⟨c0, hc0⟩ : ∃ z_, z_ = c - ((x.f0.size : Nat) : Int) := ⟨_, rfl⟩
  simp only [← hc0]
  refine Ev_b (sz_Veneer x.f1 w1 c0 (by omega) (by omega)) ?_
  by_cases g1 : (((Z_Veneer x.f1) : Nat) : Int) ≤ c0
  case neg => rw [cut_neg g1, cut_neg (by unfold Z_Entry; omega)]; exact Ev_t (by decide) (Ev_n rfl)
  rw [cut_pos g1]
  refine Ev_f (by omega) ?_
  obtain ⟨c1, hc1⟩ : ∃ z_, z_ = c0 - (((Z_Veneer x.f1) : Nat) : Int) := ⟨_, rfl⟩
  simp only [← hc1]
  rw [cut_pos (by unfold Z_Entry; omega)]
  exact Ev_n (by unfold Z_Entry; omega)
theorem szS_Entry (l : List S63) (hl : l.length ≤ maxLen) (hw : ∀ y ∈ l, W63 y) (c : Int) (h0 : 0 ≤ c) (h1 : c ≤ 1048576) : Ev (fun k => laws_szEntryS.f k l c) (cut c (ZS_Entry l)) := by
  have hM : maxLen = 9223372036854775807 := by decide
  rw [hM] at hl
  have go : ∀ (d i : Nat) (c : Int), i + d = l.length → l.length ≤ 1048576 → 0 ≤ c → c ≤ 1048576 → Ev (fun k => laws_szEntryS.l0 k l c i) (cut c (((l.drop i).map Z_Entry).sum : Nat)) := by
    intro d
    induction d with
    | zero =>
      intro i c q1 q2 q3 q4
      refine Ev_suc ?_
      simp only [laws_szEntryS.l0]
      rw [List.drop_of_length_le (by omega), cut_pos (by simpa using q3)]
      exact Ev_f (by omega) (Ev_n (by simp))
    | succ d ih =>
      intro i c q1 q2 q3 q4
      refine Ev_suc ?_
      simp only [laws_szEntryS.l0]
      refine Ev_t (by omega) (Ev_t (by omega) ?_)
      rw [rdl_Entry l i (by omega)]
      refine Ev_b (sz_Entry l[i] (hw _ (List.getElem_mem _)) c q3 q4) ?_
      rw [List.drop_eq_getElem_cons (show i < l.length by omega), List.map_cons, List.sum_cons]
      by_cases g : ((Z_Entry l[i] : Nat) : Int) ≤ c
      case neg => rw [cut_neg g, cut_neg (by omega)]; exact Ev_t (by decide) (Ev_n rfl)
      rw [cut_pos g]
      refine Ev_f (by omega) ?_
      rw [wr64s i (by omega)]
      refine Ev_at (ih (i + 1) _ (by omega) q2 (by omega) (by omega)) ?_
      unfold cut
      split <;> split <;> omega
  simp only [laws_szEntryS.f]
  rw [wr64 (x := c - (l.length : Int)) (by omega) (by omega)]
  by_cases g : c - (l.length : Int) < 0
  · rw [cut_neg (by unfold ZS_Entry; omega)]
    exact Ev_t g (Ev_n rfl)
  · refine Ev_f g (Ev_at (go l.length 0 _ (by omega) (by omega) (by omega) (by omega)) ?_)
    rw [List.drop_zero]
    unfold cut ZS_Entry
    split <;> split <;> omega
def conv_Entry (x : S63) : S50 := ⟨x.f0, (conv_Veneer x.f1)⟩
def B_Entry (x : S63) : Prop := B_Veneer x.f1
theorem B_of_Entry (x : S63) (h : (Z_Entry x : Int) ≤ 1048576) : B_Entry x := by
  unfold Z_Entry at h
  unfold B_Entry
  exact B_of_Veneer x.f1 (by omega)
theorem to_Entry (x : S63) (hb : B_Entry x) : Ev (fun k => laws_toEntry.f (x.f0) (x.f1.f0) (x.f1.f1) (x.f1.f2)) ((conv_Entry x).f0, (conv_Entry x).f1.f0, (conv_Entry x).f1.f1, (conv_Entry x).f1.f2) := by
  unfold B_Entry at hb
  simp only [laws_toEntry.f]
  refine Ev_b (to_Veneer x.f1 hb) ?_
  exact Ev_n rfl
theorem toS_Entry (l : List S63) (hl : (l.length : Int) ≤ 1048576) (hb : ∀ y ∈ l, B_Entry y) : Ev (fun k => laws_toEntryS.f k l) (l.map conv_Entry) := by
  have go : ∀ (d i : Nat) (xs : List S50), i + d = l.length → xs.length = l.length → xs.take i = (l.map conv_Entry).take i → Ev (fun k => laws_toEntryS.l0 k l xs i) (l.map conv_Entry) := by
    intro d
    induction d with
    | zero =>
      intro i xs q1 q2 q3
      refine Ev_suc ?_
      simp only [laws_toEntryS.l0]
      rw [List.take_of_length_le (by omega), List.take_of_length_le (by simp; omega)] at q3
      rw [q3]
      exact Ev_f (by omega) (Ev_n rfl)
    | succ d ih =>
      intro i xs q1 q2 q3
      refine Ev_suc ?_
      simp only [laws_toEntryS.l0]
      refine Ev_t (by omega) (Ev_t (by omega) ?_)
      rw [rdl_Entry l i (by omega)]
      refine Ev_b (to_Entry l[i] (hb _ (List.getElem_mem _))) ?_
      refine Ev_t (by omega) ?_
      rw [wr64s i (by omega), Int.toNat_natCast]
      refine ih (i + 1) _ (by omega) (by rw [List.length_set]; exact q2) ?_
      rw [set_take' _ _ _ (by omega), q3, List.take_succ_eq_append_getElem (by simp; omega)]
      simp [conv_Entry]
  simp only [laws_toEntryS.f]
  refine Ev_t (by omega) (Ev_t (by omega) ?_)
  exact go l.length 0 _ (by omega) (by simp) (by simp)
def E_Entry (x : S50) : Prop := E_Veneer x.f1
theorem E_of_Entry (x : S63) (hb : B_Entry x) : E_Entry (conv_Entry x) := by
  unfold B_Entry at hb
  unfold E_Entry
  exact E_of_Veneer _ hb
theorem eq_Entry (x : S50) (he : E_Entry x) : Ev (fun k => laws_eqEntry.f (x.f0) (x.f1.f0) (x.f1.f1) (x.f1.f2) (x.f0) (x.f1.f0) (x.f1.f1) (x.f1.f2)) true := by
  unfold E_Entry at he
  simp only [laws_eqEntry.f, if_true]
  refine Ev_b (eq_Veneer x.f1 he) ?_
  simp only [if_true]
  exact Ev_n rfl
theorem eqS_Entry (m : List S50) (hl : (m.length : Int) ≤ 1048576) (he : ∀ y ∈ m, E_Entry y) : Ev (fun k => laws_eqEntryS.f k m m) true := by
  have go : ∀ (d i : Nat), i + d = m.length → Ev (fun k => laws_eqEntryS.l0 k m m i) true := by
    intro d
    induction d with
    | zero =>
      intro i q1
      refine Ev_suc ?_
      simp only [laws_eqEntryS.l0]
      exact Ev_f (by omega) (Ev_n rfl)
    | succ d ih =>
      intro i q1
      refine Ev_suc ?_
      simp only [laws_eqEntryS.l0]
      refine Ev_t (by omega) (Ev_t (by omega) (Ev_t (by omega) ?_))
      rw [rdi_Entry m i (by omega)]
      refine Ev_b (eq_Entry m[i] (he _ (List.getElem_mem _))) ?_
      rw [wr64s i (by omega)]
      exact Ev_t rfl (ih (i + 1) (by omega))
  simp only [laws_eqEntryS.f]
  exact Ev_t (by first | trivial | rfl) (go m.length 0 (by omega))
theorem mk_Entry (l : List S50) (c : Int) (h0 : 0 ≤ c) (h1 : c ≤ 1000000000000000) (hl : (l.length : Int) ≤ 1000000000000) : ∃ l', l'.length = l.length ∧ Ev (fun k => laws_markEntryS.f k l c) (c + 4 * l.length, l') ∧ Ev (fun k => laws_heldEntryS.f k l' c) (c + 4 * l.length) := by
  have go : ∀ (q p : List S50) (i : Nat) (c : Int), p.length = i → 0 ≤ c → c + 4 * q.length ≤ 100000000000000000 → (i : Int) + q.length ≤ 1000000000000 → ∃ q', q'.length = q.length ∧ Ev (fun k => laws_markEntryS.l0 k (p ++ q) c i) (c + 4 * q.length, p ++ q') ∧ ∀ r : List S50, r.length = i → Ev (fun k => laws_heldEntryS.l0 k (r ++ q') c i) (c + 4 * q.length) := by
    intro q
    induction q with
    | nil =>
      intro p i c q1 q2 q3 q4
      refine ⟨[], rfl, Ev_suc ?_, fun r hr => Ev_suc ?_⟩
      · simp only [laws_markEntryS.l0]
        exact Ev_f (by simp; omega) (Ev_n (by simp))
      · simp only [laws_heldEntryS.l0]
        exact Ev_f (by simp; omega) (Ev_n (by simp))
    | cons x q ih =>
      intro p i c q1 q2 q3 q4
      simp only [List.length_cons] at q3 q4
      have e0 : wrap64 (c + 1) = c + 1 := (wr64 (by omega) (by omega)).trans (by omega)
      have e1 : wrap64 (c + 1 + 1) = c + 2 := (wr64 (by omega) (by omega)).trans (by omega)
      have e2 : wrap64 (c + 2 + 1) = c + 3 := (wr64 (by omega) (by omega)).trans (by omega)
      have e3 : wrap64 (c + 3 + 1) = c + 4 := (wr64 (by omega) (by omega)).trans (by omega)
      obtain ⟨t0, ht0⟩ := markText_ev (c) (by omega) (by omega)
      obtain ⟨t1, ht1⟩ := markText_ev (c + 1) (by omega) (by omega)
      obtain ⟨q', hq, hm, hh⟩ := ih (p ++ [(⟨t0, (⟨t1, c + 2, c + 3⟩ : S48)⟩ : S50)]) (i + 1) (c + 4) (by simp; omega) (by omega) (by omega) (by omega)
      refine ⟨(⟨t0, (⟨t1, c + 2, c + 3⟩ : S48)⟩ : S50) :: q', by simp [hq], Ev_suc ?_, fun r hr => Ev_suc ?_⟩
      · simp only [laws_markEntryS.l0, e0, e1, e2, e3, set_at p q _ _ i q1, rda_Entry p q _ i q1]
        refine Ev_t (by simp; omega) ?_
        refine Ev_b ht0 ?_
        refine Ev_t (by omega) ?_
        refine Ev_s ?_
        try simp only [e0, e1, e2, e3, set_at p q _ _ i q1, rda_Entry p q _ i q1]
        refine Ev_b ht1 ?_
        refine Ev_s ?_
        try simp only [e0, e1, e2, e3, set_at p q _ _ i q1, rda_Entry p q _ i q1]
        refine Ev_s ?_
        try simp only [e0, e1, e2, e3, set_at p q _ _ i q1, rda_Entry p q _ i q1]
        try simp only [e0, e1, e2, e3, set_at p q _ _ i q1, rda_Entry p q _ i q1]
        rw [wr64s i (by omega)]
        have hm' := hm
        rw [List.append_assoc, List.singleton_append, List.append_assoc, List.singleton_append] at hm'
        exact Ev_at hm' (by simp only [List.length_cons, Prod.mk.injEq, and_true]; omega)
      · simp only [laws_heldEntryS.l0, e0, e1, e2, e3, rda_Entry r q' _ i hr]
        refine Ev_t (by simp; omega) ?_
        refine Ev_t (by omega) ?_
        refine Ev_b ht0 ?_
        refine Ev_t (by first | rfl | exact True.intro | omega) ?_
        refine Ev_b ht1 ?_
        refine Ev_t (by first | rfl | exact True.intro | omega) ?_
        refine Ev_t (by first | rfl | exact True.intro | omega) ?_
        refine Ev_t (by first | rfl | exact True.intro | omega) ?_
        rw [wr64s i (by omega)]
        have hh' := hh (r ++ [(⟨t0, (⟨t1, c + 2, c + 3⟩ : S48)⟩ : S50)]) (by simp; omega)
        rw [List.append_assoc, List.singleton_append] at hh'
        exact Ev_at hh' (by simp only [List.length_cons]; omega)
  obtain ⟨l', e1, e2, e3⟩ := go l [] 0 c rfl h0 (by omega) (by simpa using hl)
  refine ⟨l', e1, ?_, ?_⟩
  · simp only [laws_markEntryS.f]; exact e2
  · simp only [laws_heldEntryS.f]; exact e3 [] rfl
theorem rdl_Version (l : List S24) (i : Nat) (h : i < l.length) : rd_T24 l (i : Int) = l[i] := by unfold rd_T24; exact getD_in l _ i h
theorem rdi_Version (l : List S29) (i : Nat) (h : i < l.length) : rd_T29 l (i : Int) = l[i] := by unfold rd_T29; exact getD_in l _ i h
theorem rda_Version (a b : List S29) (x : S29) (i : Nat) (h : a.length = i) : rd_T29 (a ++ x :: b) (i : Int) = x := by unfold rd_T29; exact getD_at a b _ x i h
def Z_Version (x : S24) : Nat := x.f2.size + (ZS_Entry x.f3)
def ZS_Version (l : List S24) : Nat := l.length + (l.map Z_Version).sum
theorem ZS_in_Version (l : List S24) : l.length ≤ ZS_Version l ∧ ∀ y ∈ l, Z_Version y ≤ ZS_Version l := ⟨by unfold ZS_Version; omega, fun y hy => by have := sum_le Z_Version l y hy; unfold ZS_Version; omega⟩
theorem sz_Version (x : S24) (hw : W24 x) (c : Int) (h0 : 0 ≤ c) (h1 : c ≤ 1048576) : Ev (fun k => laws_szVersion.f k (x.f0) (x.f1) (x.f2) (x.f3) c) (cut c (Z_Version x)) := by
  have hM : maxLen = 9223372036854775807 := by decide
  unfold W24 at hw
  obtain ⟨w0, w1, w2, w3⟩ := hw
  simp only [laws_szVersion.f]
  have b2 : x.f2.size ≤ maxLen := w2
  rw [hM] at b2
  have e2 : wrap64 (c - ((x.f2.size : Nat) : Int)) = c - ((x.f2.size : Nat) : Int) := wr64 (by omega) (by omega)
  simp only [e2]
  by_cases g2 : c - ((x.f2.size : Nat) : Int) < 0
  · rw [cut_neg (by unfold Z_Version; omega)]; exact Ev_t g2 (Ev_n rfl)
  refine Ev_f g2 ?_
  obtain ⟨c2, hc2⟩ : ∃ z_, z_ = c - ((x.f2.size : Nat) : Int) := ⟨_, rfl⟩
  simp only [← hc2]
  refine Ev_b (szS_Entry x.f3 w3.1 w3.2 c2 (by omega) (by omega)) ?_
  by_cases g3 : (((ZS_Entry x.f3) : Nat) : Int) ≤ c2
  case neg => rw [cut_neg g3, cut_neg (by unfold Z_Version; omega)]; exact Ev_t (by decide) (Ev_n rfl)
  rw [cut_pos g3]
  refine Ev_f (by omega) ?_
  obtain ⟨c3, hc3⟩ : ∃ z_, z_ = c2 - (((ZS_Entry x.f3) : Nat) : Int) := ⟨_, rfl⟩
  simp only [← hc3]
  rw [cut_pos (by unfold Z_Version; omega)]
  exact Ev_n (by unfold Z_Version; omega)
theorem szS_Version (l : List S24) (hl : l.length ≤ maxLen) (hw : ∀ y ∈ l, W24 y) (c : Int) (h0 : 0 ≤ c) (h1 : c ≤ 1048576) : Ev (fun k => laws_szVersionS.f k l c) (cut c (ZS_Version l)) := by
  have hM : maxLen = 9223372036854775807 := by decide
  rw [hM] at hl
  have go : ∀ (d i : Nat) (c : Int), i + d = l.length → l.length ≤ 1048576 → 0 ≤ c → c ≤ 1048576 → Ev (fun k => laws_szVersionS.l0 k l c i) (cut c (((l.drop i).map Z_Version).sum : Nat)) := by
    intro d
    induction d with
    | zero =>
      intro i c q1 q2 q3 q4
      refine Ev_suc ?_
      simp only [laws_szVersionS.l0]
      rw [List.drop_of_length_le (by omega), cut_pos (by simpa using q3)]
      exact Ev_f (by omega) (Ev_n (by simp))
    | succ d ih =>
      intro i c q1 q2 q3 q4
      refine Ev_suc ?_
      simp only [laws_szVersionS.l0]
      refine Ev_t (by omega) (Ev_t (by omega) ?_)
      rw [rdl_Version l i (by omega)]
      refine Ev_b (sz_Version l[i] (hw _ (List.getElem_mem _)) c q3 q4) ?_
      rw [List.drop_eq_getElem_cons (show i < l.length by omega), List.map_cons, List.sum_cons]
      by_cases g : ((Z_Version l[i] : Nat) : Int) ≤ c
      case neg => rw [cut_neg g, cut_neg (by omega)]; exact Ev_t (by decide) (Ev_n rfl)
      rw [cut_pos g]
      refine Ev_f (by omega) ?_
      rw [wr64s i (by omega)]
      refine Ev_at (ih (i + 1) _ (by omega) q2 (by omega) (by omega)) ?_
      unfold cut
      split <;> split <;> omega
  simp only [laws_szVersionS.f]
  rw [wr64 (x := c - (l.length : Int)) (by omega) (by omega)]
  by_cases g : c - (l.length : Int) < 0
  · rw [cut_neg (by unfold ZS_Version; omega)]
    exact Ev_t g (Ev_n rfl)
  · refine Ev_f g (Ev_at (go l.length 0 _ (by omega) (by omega) (by omega) (by omega)) ?_)
    rw [List.drop_zero]
    unfold cut ZS_Version
    split <;> split <;> omega
def conv_Version (x : S24) : S29 := ⟨x.f0, x.f1, x.f2, (x.f3.map conv_Entry)⟩
def B_Version (x : S24) : Prop := ((x.f3.length : Int) ≤ 1048576 ∧ ∀ y ∈ x.f3, B_Entry y)
theorem B_of_Version (x : S24) (h : (Z_Version x : Int) ≤ 1048576) : B_Version x := by
  unfold Z_Version at h
  unfold B_Version
  exact ⟨by have := (ZS_in_Entry x.f3).1; omega, fun y hy => B_of_Entry y (by have := (ZS_in_Entry x.f3).2 y hy; omega)⟩
theorem to_Version (x : S24) (hb : B_Version x) : Ev (fun k => laws_toVersion.f k (x.f0) (x.f1) (x.f2) (x.f3)) ((conv_Version x).f0, (conv_Version x).f1, (conv_Version x).f2, (conv_Version x).f3) := by
  unfold B_Version at hb
  simp only [laws_toVersion.f]
  refine Ev_b (toS_Entry x.f3 hb.1 hb.2) ?_
  exact Ev_n rfl
theorem toS_Version (l : List S24) (hl : (l.length : Int) ≤ 1048576) (hb : ∀ y ∈ l, B_Version y) : Ev (fun k => laws_toVersionS.f k l) (l.map conv_Version) := by
  have go : ∀ (d i : Nat) (xs : List S29), i + d = l.length → xs.length = l.length → xs.take i = (l.map conv_Version).take i → Ev (fun k => laws_toVersionS.l0 k l xs i) (l.map conv_Version) := by
    intro d
    induction d with
    | zero =>
      intro i xs q1 q2 q3
      refine Ev_suc ?_
      simp only [laws_toVersionS.l0]
      rw [List.take_of_length_le (by omega), List.take_of_length_le (by simp; omega)] at q3
      rw [q3]
      exact Ev_f (by omega) (Ev_n rfl)
    | succ d ih =>
      intro i xs q1 q2 q3
      refine Ev_suc ?_
      simp only [laws_toVersionS.l0]
      refine Ev_t (by omega) (Ev_t (by omega) ?_)
      rw [rdl_Version l i (by omega)]
      refine Ev_b (to_Version l[i] (hb _ (List.getElem_mem _))) ?_
      refine Ev_t (by omega) ?_
      rw [wr64s i (by omega), Int.toNat_natCast]
      refine ih (i + 1) _ (by omega) (by rw [List.length_set]; exact q2) ?_
      rw [set_take' _ _ _ (by omega), q3, List.take_succ_eq_append_getElem (by simp; omega)]
      simp [conv_Version]
  simp only [laws_toVersionS.f]
  refine Ev_t (by omega) (Ev_t (by omega) ?_)
  exact go l.length 0 _ (by omega) (by simp) (by simp)
def E_Version (x : S29) : Prop := ((x.f3.length : Int) ≤ 1048576 ∧ ∀ y ∈ x.f3, E_Entry y)
theorem E_of_Version (x : S24) (hb : B_Version x) : E_Version (conv_Version x) := by
  unfold B_Version at hb
  unfold E_Version
  exact ⟨by unfold conv_Version; simpa using hb.1, fun y hy => by have hy' : y ∈ x.f3.map conv_Entry := hy; obtain ⟨z, hz, rfl⟩ := List.mem_map.1 hy'; exact E_of_Entry z (hb.2 z hz)⟩
theorem eq_Version (x : S29) (he : E_Version x) : Ev (fun k => laws_eqVersion.f k (x.f0) (x.f1) (x.f2) (x.f3) (x.f0) (x.f1) (x.f2) (x.f3)) true := by
  unfold E_Version at he
  simp only [laws_eqVersion.f, if_true]
  refine Ev_b (eqS_Entry x.f3 he.1 he.2) ?_
  simp only [if_true]
  exact Ev_n rfl
theorem eqS_Version (m : List S29) (hl : (m.length : Int) ≤ 1048576) (he : ∀ y ∈ m, E_Version y) : Ev (fun k => laws_eqVersionS.f k m m) true := by
  have go : ∀ (d i : Nat), i + d = m.length → Ev (fun k => laws_eqVersionS.l0 k m m i) true := by
    intro d
    induction d with
    | zero =>
      intro i q1
      refine Ev_suc ?_
      simp only [laws_eqVersionS.l0]
      exact Ev_f (by omega) (Ev_n rfl)
    | succ d ih =>
      intro i q1
      refine Ev_suc ?_
      simp only [laws_eqVersionS.l0]
      refine Ev_t (by omega) (Ev_t (by omega) (Ev_t (by omega) ?_))
      rw [rdi_Version m i (by omega)]
      refine Ev_b (eq_Version m[i] (he _ (List.getElem_mem _))) ?_
      rw [wr64s i (by omega)]
      exact Ev_t rfl (ih (i + 1) (by omega))
  simp only [laws_eqVersionS.f]
  exact Ev_t (by first | trivial | rfl) (go m.length 0 (by omega))
end Go.Proofs.YthnigkbbmhnafaaDoor.Q
namespace Go.Proofs.YthnigkbbmhnafaaDoor.Q
open Go.RowKit Go.Proofs.YthnigkbbmhnafaaDoorW.PrintWords Go.Proofs.YthnigkbbmhnafaaDoorW.PrintLast Go.Proofs.YthnigkbbmhnafaaDoorW.PrintMore
theorem ite_and (b c : Bool) : (if b = true then some c else some false) = some (b && c) := by cases b <;> rfl
theorem in_f (a b c : Int) : spec_l00In.f a b c = some (decide (b ≤ a) && decide (a ≤ c)) := by unfold spec_l00In.f; by_cases h : a ≥ b <;> simp [h]
theorem within_f (a b c : Int) : impl_within.f a b c = some (decide (b ≤ a) && decide (a ≤ c)) := by unfold impl_within.f; by_cases h : a ≥ b <;> simp [h]
theorem w64 {x : Int} (h0 : -9223372036854775808 ≤ x) (h1 : x < 9223372036854775808) : wrap64 x = x := by unfold wrap64; omega
end Go.Proofs.YthnigkbbmhnafaaDoor.Q
namespace Go.Proofs.YthnigkbbmhnafaaDoor.Q
open Go.RowKit Go.Proofs.YthnigkbbmhnafaaDoorW.PrintWords Go.Proofs.YthnigkbbmhnafaaDoorW.PrintLast Go.Proofs.YthnigkbbmhnafaaDoorW.PrintMore
theorem toList_len (x : ByteArray) : x.toList.length = x.size := by
  rw [Go.ByteArray.toList_eq x, Array.length_toList]; rfl
theorem name_round (k : Nat) (x : ByteArray) (i : Int) : spec_l01Name.l0 k x i = impl_IsName.l0 k x i := by
  induction k generalizing i with
  | zero => rfl
  | succ k ih =>
    simp only [spec_l01Name.l0, impl_IsName.l0, ih, spec_l01Small.f, spec_l01Digit.f]
    by_cases h1 : i < (x.size : Int)
    · rw [if_pos h1, if_pos h1]
      by_cases h2 : 0 ≤ i
      · rw [if_pos h2, if_pos h2]
        generalize bt x i = c
        by_cases h3 : c < 97
        · rw [if_pos h3, if_neg (by omega)]
          by_cases h4 : c < 48
          · rw [if_pos h4, if_neg (by omega)]; simp
          · rw [if_neg h4, if_pos (by omega)]
            by_cases h5 : c > 57
            · rw [if_pos h5]; simp [show ¬ c ≤ 57 by omega]
            · rw [if_neg h5]; simp [show c ≤ 57 by omega]
        · rw [if_neg h3, if_pos (show c ≥ 97 by omega)]
          by_cases h4 : c > 122
          · simp [h4, show ¬ c < 48 by omega, show c > 57 by omega, show ¬ c ≤ 122 by omega, show ¬ c ≤ 57 by omega]
          · rw [if_neg h4]; simp [show c ≤ 122 by omega]
      · rw [if_neg h2, if_neg h2]
    · rw [if_neg h1, if_neg h1]
theorem name_same (k : Nat) (x : ByteArray) : spec_l01Name.f k x = impl_IsName.f k x := by
  have hj : ∀ b, spec_l01Name.j0 k x b = impl_IsName.j0 k x b := by
    intro b
    cases k with
    | zero => rfl
    | succ k => simp only [spec_l01Name.j0, impl_IsName.j0, name_round]
  unfold spec_l01Name.f impl_IsName.f spec_l01Small.f
  simp only [hj]
  by_cases h0 : x.toList = []
  · have : x.size = 0 := by rw [← toList_len, h0]; rfl
    rw [if_pos h0, if_pos (by omega)]
  · have : x.size ≠ 0 := by
      intro e; apply h0; apply List.eq_nil_of_length_eq_zero; rw [toList_len, e]
    rw [if_neg h0, if_neg (show ¬ (x.size : Int) < 1 by omega)]
    by_cases h1 : (x.size : Int) > 10
    · rw [if_pos h1, if_pos h1]
    · rw [if_neg h1, if_neg h1, if_pos (show 0 < (x.size : Int) by omega), if_pos (show 0 < (x.size : Int) by omega)]
      generalize bt x 0 = c
      by_cases h3 : c < 97
      · rw [if_pos h3, if_neg (show ¬ c ≥ 97 by omega)]; rfl
      · rw [if_neg h3, if_pos (show c ≥ 97 by omega)]
        simp only [Option.bind_some]
        congr 1
        by_cases h4 : c > 122
        · simp [h4, show ¬ c ≤ 122 by omega]
        · simp [h4, show c ≤ 122 by omega]
theorem name_ev (x : ByteArray) : ∃ b, ∀ k, 12 < k → impl_IsName.f k x = some b := by
  have go : ∀ (d : Nat) (i : Int), 0 ≤ i → i + d = x.size → (x.size : Int) ≤ 10 → ∃ b, ∀ k, d < k → impl_IsName.l0 k x i = some b := by
    intro d
    induction d with
    | zero =>
      intro i h0 h1 _
      refine ⟨true, fun k hk => ?_⟩
      obtain ⟨k, rfl⟩ : ∃ m, k = m + 1 := ⟨k - 1, by omega⟩
      simp only [impl_IsName.l0]
      rw [if_neg (by omega)]
    | succ d ih =>
      intro i h0 h1 h2
      obtain ⟨b, hb⟩ := ih (i + 1) (by omega) (by omega) h2
      by_cases h3 : bt x i < 97
      · by_cases h4 : bt x i < 48
        · refine ⟨false, fun k hk => ?_⟩
          obtain ⟨k, rfl⟩ : ∃ m, k = m + 1 := ⟨k - 1, by omega⟩
          simp only [impl_IsName.l0]
          rw [if_pos (by omega), if_pos h0, if_pos h3, if_pos h4]
        · by_cases h5 : bt x i > 57
          · refine ⟨false, fun k hk => ?_⟩
            obtain ⟨k, rfl⟩ : ∃ m, k = m + 1 := ⟨k - 1, by omega⟩
            simp only [impl_IsName.l0]
            rw [if_pos (by omega), if_pos h0, if_pos h3, if_neg h4, if_pos h5]
          · refine ⟨b, fun k hk => ?_⟩
            obtain ⟨k, rfl⟩ : ∃ m, k = m + 1 := ⟨k - 1, by omega⟩
            simp only [impl_IsName.l0]
            rw [if_pos (by omega), if_pos h0, if_pos h3, if_neg h4, if_neg h5, w64 (by omega) (by omega), hb k (by omega)]
      · by_cases h4 : bt x i > 122
        · refine ⟨false, fun k hk => ?_⟩
          obtain ⟨k, rfl⟩ : ∃ m, k = m + 1 := ⟨k - 1, by omega⟩
          simp only [impl_IsName.l0]
          rw [if_pos (by omega), if_pos h0, if_neg h3, if_pos h4, if_neg (by omega), if_pos (by omega)]
        · refine ⟨b, fun k hk => ?_⟩
          obtain ⟨k, rfl⟩ : ∃ m, k = m + 1 := ⟨k - 1, by omega⟩
          simp only [impl_IsName.l0]
          rw [if_pos (by omega), if_pos h0, if_neg h3, if_neg h4, w64 (by omega) (by omega), hb k (by omega)]
  have hj : ∀ (b : Bool), (b = false → (x.size : Int) ≤ 10) → ∃ c, ∀ k, 12 < k → impl_IsName.j0 k x b = some c := by
    intro b hs
    cases b with
    | true =>
      refine ⟨false, fun k hk => ?_⟩
      obtain ⟨k, rfl⟩ : ∃ m, k = m + 1 := ⟨k - 1, by omega⟩
      simp only [impl_IsName.j0, if_true]
    | false =>
      obtain ⟨c, hc⟩ := go x.size 0 (by omega) (by omega) (hs rfl)
      have := hs rfl
      refine ⟨c, fun k hk => ?_⟩
      obtain ⟨k, rfl⟩ : ∃ m, k = m + 1 := ⟨k - 1, by omega⟩
      simp only [impl_IsName.j0]
      rw [if_neg (by decide), hc k (by omega)]
  unfold impl_IsName.f
  by_cases h1 : (x.size : Int) < 1
  · simp only [if_pos h1]; exact hj true (by intro h; cases h)
  · simp only [if_neg h1]
    by_cases h2 : (x.size : Int) > 10
    · simp only [if_pos h2]; exact hj true (by intro h; cases h)
    · simp only [if_neg h2, if_pos (show 0 < (x.size : Int) by omega)]
      by_cases h3 : bt x 0 < 97
      · simp only [if_pos h3]; exact hj true (by intro h; cases h)
      · simp only [if_neg h3]; exact hj _ (fun _ => by omega)
end Go.Proofs.YthnigkbbmhnafaaDoor.Q
namespace Go.Proofs.YthnigkbbmhnafaaDoor.Q
open Go.RowKit Go.Proofs.YthnigkbbmhnafaaDoorW.PrintWords Go.Proofs.YthnigkbbmhnafaaDoorW.PrintLast Go.Proofs.YthnigkbbmhnafaaDoorW.PrintMore
def spi (l : List UInt8) : Int := if l = [97, 115, 104] then 0 else if l = [98, 101, 101, 99, 104] then 1 else if l = [98, 105, 114, 99, 104] then 2 else if l = [99, 104, 101, 114, 114, 121] then 3 else if l = [101, 98, 111, 110, 121] then 4 else if l = [104, 111, 108, 108, 121] then 5 else if l = [109, 97, 112, 108, 101] then 6 else if l = [111, 97, 107] then 7 else if l = [114, 111, 115, 101, 119, 111, 111, 100] then 8 else if l = [119, 97, 108, 110, 117, 116] then 9 else -1
def shades : List Int := [20, 35, 15, 50, 95, 5, 10, 40, 80, 70]
theorem sp_cases (l : List UInt8) : (l = [97, 115, 104]) ∨ (l = [98, 101, 101, 99, 104]) ∨ (l = [98, 105, 114, 99, 104]) ∨ (l = [99, 104, 101, 114, 114, 121]) ∨ (l = [101, 98, 111, 110, 121]) ∨ (l = [104, 111, 108, 108, 121]) ∨ (l = [109, 97, 112, 108, 101]) ∨ (l = [111, 97, 107]) ∨ (l = [114, 111, 115, 101, 119, 111, 111, 100]) ∨ (l = [119, 97, 108, 110, 117, 116]) ∨ (¬ l = [97, 115, 104] ∧ ¬ l = [98, 101, 101, 99, 104] ∧ ¬ l = [98, 105, 114, 99, 104] ∧ ¬ l = [99, 104, 101, 114, 114, 121] ∧ ¬ l = [101, 98, 111, 110, 121] ∧ ¬ l = [104, 111, 108, 108, 121] ∧ ¬ l = [109, 97, 112, 108, 101] ∧ ¬ l = [111, 97, 107] ∧ ¬ l = [114, 111, 115, 101, 119, 111, 111, 100] ∧ ¬ l = [119, 97, 108, 110, 117, 116]) := by
  by_cases h0 : l = [97, 115, 104]
  · exact .inl h0
  by_cases h1 : l = [98, 101, 101, 99, 104]
  · exact .inr ((.inl h1))
  by_cases h2 : l = [98, 105, 114, 99, 104]
  · exact .inr (.inr ((.inl h2)))
  by_cases h3 : l = [99, 104, 101, 114, 114, 121]
  · exact .inr (.inr (.inr ((.inl h3))))
  by_cases h4 : l = [101, 98, 111, 110, 121]
  · exact .inr (.inr (.inr (.inr ((.inl h4)))))
  by_cases h5 : l = [104, 111, 108, 108, 121]
  · exact .inr (.inr (.inr (.inr (.inr ((.inl h5))))))
  by_cases h6 : l = [109, 97, 112, 108, 101]
  · exact .inr (.inr (.inr (.inr (.inr (.inr ((.inl h6)))))))
  by_cases h7 : l = [111, 97, 107]
  · exact .inr (.inr (.inr (.inr (.inr (.inr (.inr ((.inl h7))))))))
  by_cases h8 : l = [114, 111, 115, 101, 119, 111, 111, 100]
  · exact .inr (.inr (.inr (.inr (.inr (.inr (.inr (.inr ((.inl h8)))))))))
  by_cases h9 : l = [119, 97, 108, 110, 117, 116]
  · exact .inr (.inr (.inr (.inr (.inr (.inr (.inr (.inr (.inr ((.inl h9))))))))))
  exact .inr (.inr (.inr (.inr (.inr (.inr (.inr (.inr (.inr (.inr (⟨h0, h1, h2, h3, h4, h5, h6, h7, h8, h9⟩))))))))))
theorem l07Find_f (a : ByteArray) (k : Nat) (hk : 12 ≤ k) : spec_l07Find.f k a = some (spi a.toList) := by
  obtain ⟨k, rfl⟩ : ∃ m, k = m + 12 := ⟨k - 12, by omega⟩
  unfold spec_l07Find.f spec_l07Names.f spi
  simp only [Option.bind_some, spec_l07Find.l0, wrap64, rdOf]
  simp (decide := true)
  generalize a.toList = l
  simp only [eq_comm (b := l)]
  rcases sp_cases l with h | h | h | h | h | h | h | h | h | h | h
  all_goals first | (subst h; decide) | (obtain ⟨h0, h1, h2, h3, h4, h5, h6, h7, h8, h9⟩ := h; simp only [h0, h1, h2, h3, h4, h5, h6, h7, h8, h9, if_false])
def vVen (l : List UInt8) (sh gr : Int) : Bool := decide (0 ≤ spi l) && ((decide (0 ≤ sh) && decide (sh ≤ 100)) && ((decide (rd shades (spi l) - 15 ≤ sh) && decide (sh ≤ rd shades (spi l) + 15)) && (decide (0 ≤ gr) && decide (gr ≤ 179))))
theorem spi_range (l : List UInt8) : -1 ≤ spi l ∧ spi l ≤ 9 := by
  rcases sp_cases l with h | h | h | h | h | h | h | h | h | h | h
  all_goals first | (subst h; decide) | (obtain ⟨h0, h1, h2, h3, h4, h5, h6, h7, h8, h9⟩ := h; unfold spi; simp only [h0, h1, h2, h3, h4, h5, h6, h7, h8, h9, if_false]; decide)
theorem shade_of (i : Int) (h0 : 0 ≤ i) (h1 : i ≤ 9) : ∃ t, spec_l07Table.f = some t ∧ i < t.length ∧ 0 < (rd_L4 t i).length ∧ rd (rd_L4 t i) 0 = rd shades i ∧ 0 ≤ rd shades i ∧ rd shades i ≤ 100 := by
  refine ⟨_, rfl, ?_⟩
  obtain ⟨n, rfl⟩ := Int.eq_ofNat_of_zero_le h0
  have hn : n ≤ 9 := by omega
  match n, hn with
  | 0, _ => decide
  | 1, _ => decide
  | 2, _ => decide
  | 3, _ => decide
  | 4, _ => decide
  | 5, _ => decide
  | 6, _ => decide
  | 7, _ => decide
  | 8, _ => decide
  | 9, _ => decide
theorem iShade_f (a : ByteArray) : impl_speciesShade.f a = some (if 0 ≤ spi a.toList then (rd shades (spi a.toList), true) else (0, false)) := by
  unfold impl_speciesShade.f impl_SpeciesData.f spi
  generalize a.toList = l
  rcases sp_cases l with h | h | h | h | h | h | h | h | h | h | h
  all_goals first | (subst h; decide) | (obtain ⟨h0, h1, h2, h3, h4, h5, h6, h7, h8, h9⟩ := h; simp only [h0, h1, h2, h3, h4, h5, h6, h7, h8, h9, if_false]; decide)
theorem l07Ok_f (x : S48) (k : Nat) (hk : 12 ≤ k) : spec_l07Ok.f k [x] = some (vVen x.f0.toList x.f1 x.f2) := by
  obtain ⟨k, rfl⟩ : ∃ m, k = m + 1 := ⟨k - 1, by omega⟩
  have hrd : rd_T48 [x] 0 = x := rfl
  unfold spec_l07Ok.f vVen
  rw [if_pos (by simp), hrd, l07Find_f _ _ hk]
  simp only [Option.bind_some]
  have hr := spi_range x.f0.toList
  by_cases h : spi x.f0.toList < 0
  · rw [if_pos h]
    simp only [spec_l07Ok.j0, if_true]
    rw [show decide (0 ≤ spi x.f0.toList) = false from decide_eq_false (by omega)]
    rfl
  · rw [if_neg h, in_f, show decide (0 ≤ spi x.f0.toList) = true from decide_eq_true (by omega)]
    obtain ⟨t, ht, h1, h2, h3, h4, h5⟩ := shade_of (spi x.f0.toList) (by omega) (by omega)
    simp only [Option.bind_some, spec_l07Ok.j0]
    cases hs : (decide (0 ≤ x.f1) && decide (x.f1 ≤ 100))
    · simp
    · rw [if_neg (by simp), ht]
      simp only [Option.bind_some]
      rw [if_pos (by omega), if_pos h1, if_pos (by omega), if_pos (by simp), hrd, h3, in_f, w64 (by omega) (by omega), w64 (by omega) (by omega)]
      simp only [Option.bind_some, spec_l07Grain.f, in_f]
      rw [ite_and]
      simp
theorem iValidVeneer_f (a : ByteArray) (sh gr : Int) : impl_ValidVeneer.f a sh gr = some (vVen a.toList sh gr) := by
  unfold impl_ValidVeneer.f vVen
  rw [iShade_f]
  simp only [Option.bind_some]
  have hr := spi_range a.toList
  by_cases h : 0 ≤ spi a.toList
  · rw [if_pos h]
    obtain ⟨t, ht, h1, h2, h3, h4, h5⟩ := shade_of (spi a.toList) h (by omega)
    simp only [if_true, within_f, Option.bind_some]
    rw [show decide (0 ≤ spi a.toList) = true from decide_eq_true h]
    cases hs : (decide (0 ≤ sh) && decide (sh ≤ 100))
    · simp
    · have hs' : 0 ≤ sh ∧ sh ≤ 100 := by simpa using hs
      rw [w64 (by omega) (by omega)]
      simp only [if_true, ite_and, Bool.true_and]
      congr 2
      rw [Bool.eq_iff_iff]
      simp only [Bool.and_eq_true, decide_eq_true_eq]
      omega
  · rw [if_neg h, show decide (0 ≤ spi a.toList) = false from decide_eq_false h]
    simp
end Go.Proofs.YthnigkbbmhnafaaDoor.Q
namespace Go.Proofs.YthnigkbbmhnafaaDoor.Q
open Go.RowKit Go.Proofs.YthnigkbbmhnafaaDoorW.PrintWords Go.Proofs.YthnigkbbmhnafaaDoorW.PrintLast Go.Proofs.YthnigkbbmhnafaaDoorW.PrintMore
abbrev Ent := S50
abbrev Ver := S29
def fcE (x : Ent) : List UInt8 := x.f0.data.toList
theorem less_iff : ∀ l m : List UInt8, Op.bytesLess l m = true ↔ Go.Lib.compareBytes l m < 0
  | [], [] => by simp [Go.Lib.compareBytes, Op.bytesLess]
  | [], _ :: _ => by simp [Go.Lib.compareBytes, Op.bytesLess]
  | _ :: _, [] => by simp [Go.Lib.compareBytes, Op.bytesLess]
  | a :: x, b :: y => by
    have ih := less_iff x y
    unfold Go.Lib.compareBytes Op.bytesLess
    by_cases hab : a < b
    · have hne : a ≠ b := fun e => by subst e; exact absurd hab (UInt8.lt_irrefl _)
      simp [hab, hne]
    · by_cases hba : b < a
      · have hne : a ≠ b := fun e => by subst e; exact absurd hba (UInt8.lt_irrefl _)
        simp [hab, hba, hne]
      · have he : a = b := UInt8.le_antisymm (UInt8.not_lt.1 hba) (UInt8.not_lt.1 hab)
        subst he
        simp only [hab, if_false]
        simpa using ih
theorem nameE_ev (x : ByteArray) : ∃ b, Ev (fun k => impl_IsName.f k x) b ∧ Ev (fun k => spec_l01Name.f k x) b := by
  obtain ⟨b, hb⟩ := name_ev x
  exact ⟨b, ⟨13, fun k hk => hb k (by omega)⟩, ⟨13, fun k hk => (name_same k x).trans (hb k (by omega))⟩⟩
theorem entry_ev (x : Ent) : ∃ b, Ev (fun k => spec_l27Entry.f k [x]) b ∧ Ev (fun k => impl_validEntry.f k x.f0 x.f1.f0 x.f1.f1 x.f1.f2) b ∧ (b = true → vVen x.f1.f0.toList x.f1.f1 x.f1.f2 = true) := by
  obtain ⟨n, h1, h2⟩ := nameE_ev x.f0
  have v1 : Ev (fun k => spec_l07Ok.f k [x.f1]) (vVen x.f1.f0.toList x.f1.f1 x.f1.f2) := ⟨12, fun k hk => l07Ok_f x.f1 k hk⟩
  have v2 := iValidVeneer_f x.f1.f0 x.f1.f1 x.f1.f2
  have r0 : rd_T50 [x] 0 = x := rfl
  cases n with
  | false =>
    refine ⟨false, ?_, ?_, fun h => by cases h⟩
    · simp only [spec_l27Entry.f, r0]; exact Ev_t (by simp) (Ev_b h2 (Ev_f (by decide) (Ev_n rfl)))
    · simp only [impl_validEntry.f]; exact Ev_b h1 (Ev_f (by decide) (Ev_n rfl))
  | true =>
    refine ⟨vVen x.f1.f0.toList x.f1.f1 x.f1.f2, ?_, ?_, fun h => h⟩
    · simp only [spec_l27Entry.f, r0]; exact Ev_t (by simp) (Ev_b h2 (Ev_t rfl (Ev_b v1 (Ev_n rfl))))
    · simp only [impl_validEntry.f]; exact Ev_b h1 (Ev_t rfl (Ev_b (Ev_c v2) (Ev_n rfl)))
def Sta (m : List Ent) : Prop := m.length ≤ 24 ∧ (∀ (i : Nat) (hi : i + 1 < m.length), Go.Lib.compareBytes (fcE (m[i]'(by omega))) (fcE m[i + 1]) < 0) ∧ ∀ y ∈ m, vVen y.f1.f0.toList y.f1.f1 y.f1.f2 = true
theorem state_ev (m : List Ent) (hl : (m.length : Int) ≤ 1048576) : ∃ b, Ev (fun k => spec_l27State.f k m) b ∧ Ev (fun k => impl_ValidState.f k m) b ∧ (b = true → Sta m) := by
  have go : ∀ (d i : Nat), i + d = m.length → ∃ b, Ev (fun k => spec_l27State.l0 k m i) b ∧ Ev (fun k => impl_ValidState.l0 k m m (m.length : Int) i) b ∧ (b = true → m.length ≤ 24 ∧ (∀ (j : Nat), i ≤ j → 0 < j → ∀ (hj : j < m.length), Go.Lib.compareBytes (fcE (m[j - 1]'(by omega))) (fcE m[j]) < 0) ∧ ∀ (j : Nat), i ≤ j → ∀ (hj : j < m.length), vVen m[j].f1.f0.toList m[j].f1.f1 m[j].f1.f2 = true) := by
    intro d
    induction d with
    | zero =>
      intro i h1
      refine ⟨decide ((m.length : Int) ≤ 24), Ev_suc ?_, Ev_suc ?_, fun h => ⟨by have := of_decide_eq_true h; omega, fun j h2 _ hj => by omega, fun j h2 hj => by omega⟩⟩
      · simp only [spec_l27State.l0]; exact Ev_f (by omega) (Ev_n rfl)
      · simp only [impl_ValidState.l0]; exact Ev_f (by omega) (Ev_n rfl)
    | succ d ih =>
      intro i h1
      have hi : i < m.length := by omega
      obtain ⟨v, v1, v2, v3⟩ := entry_ev m[i]
      cases v with
      | false =>
        refine ⟨false, Ev_suc ?_, Ev_suc ?_, fun h => by cases h⟩
        · simp only [spec_l27State.l0]
          refine Ev_t (by omega) (Ev_t (by omega) ?_)
          rw [rdi_Entry m i hi]
          exact Ev_b v1 (Ev_f (by decide) (Ev_n rfl))
        · simp only [impl_ValidState.l0]
          refine Ev_t (by omega) (Ev_t (by omega) (Ev_t (by omega) ?_))
          rw [rdi_Entry m i hi]
          exact Ev_b v2 (Ev_f (by decide) (Ev_n rfl))
      | true =>
        obtain ⟨b, b1, b2, b3⟩ := ih (i + 1) (by omega)
        by_cases h0 : i = 0
        · refine ⟨b, Ev_suc ?_, Ev_suc ?_, fun h => ?_⟩
          · simp only [spec_l27State.l0]
            refine Ev_t (by omega) (Ev_t (by omega) ?_)
            rw [rdi_Entry m i hi, wr64s i (by omega)]
            exact Ev_b v1 (Ev_t rfl (Ev_f (by omega) b1))
          · simp only [impl_ValidState.l0]
            refine Ev_t (by omega) (Ev_t (by omega) (Ev_t (by omega) ?_))
            rw [rdi_Entry m i hi, wr64s i (by omega)]
            exact Ev_b v2 (Ev_t rfl (Ev_f (by omega) b2))
          · obtain ⟨c1, c2, c3⟩ := b3 h
            refine ⟨c1, fun j h2 h3 hj => c2 j (by omega) h3 hj, fun j h2 hj => ?_⟩
            rcases Nat.lt_or_eq_of_le h2 with g | g
            · exact c3 j (by omega) hj
            · subst g; exact v3 rfl
        · have e : wrap64 ((i : Int) - 1) = ((i - 1 : Nat) : Int) := by rw [wr64 (by omega) (by omega)]; omega
          by_cases hc : Op.bytesLess ((m[i - 1]'(by omega)).f0.toList) (m[i].f0.toList) = true
          · refine ⟨b, Ev_suc ?_, Ev_suc ?_, fun h => ?_⟩
            · simp only [spec_l27State.l0]
              refine Ev_t (by omega) (Ev_t (by omega) ?_)
              rw [e, rdi_Entry m i hi, rdi_Entry m (i - 1) (by omega), wr64s i (by omega)]
              exact Ev_b v1 (Ev_t rfl (Ev_t (by omega) (Ev_t (by omega) (Ev_t (by omega) (Ev_t hc b1)))))
            · simp only [impl_ValidState.l0]
              refine Ev_t (by omega) (Ev_t (by omega) (Ev_t (by omega) ?_))
              rw [e, rdi_Entry m i hi, rdi_Entry m (i - 1) (by omega), wr64s i (by omega)]
              exact Ev_b v2 (Ev_t rfl (Ev_t (by omega) (Ev_t (by omega) (Ev_t (by omega) (Ev_t hc b2)))))
            · obtain ⟨c1, c2, c3⟩ := b3 h
              refine ⟨c1, fun j h2 h3 hj => ?_, fun j h2 hj => ?_⟩
              · rcases Nat.lt_or_eq_of_le h2 with g | g
                · exact c2 j (by omega) h3 hj
                · subst g
                  have := (less_iff _ _).1 hc
                  simpa only [fcE, Go.ByteArray.toList_eq] using this
              · rcases Nat.lt_or_eq_of_le h2 with g | g
                · exact c3 j (by omega) hj
                · subst g; exact v3 rfl
          · refine ⟨false, Ev_suc ?_, Ev_suc ?_, fun h => by cases h⟩
            · simp only [spec_l27State.l0]
              refine Ev_t (by omega) (Ev_t (by omega) ?_)
              rw [e, rdi_Entry m i hi, rdi_Entry m (i - 1) (by omega), wr64s i (by omega)]
              exact Ev_b v1 (Ev_t rfl (Ev_t (by omega) (Ev_t (by omega) (Ev_t (by omega) (Ev_f hc (Ev_n rfl))))))
            · simp only [impl_ValidState.l0]
              refine Ev_t (by omega) (Ev_t (by omega) (Ev_t (by omega) ?_))
              rw [e, rdi_Entry m i hi, rdi_Entry m (i - 1) (by omega), wr64s i (by omega)]
              exact Ev_b v2 (Ev_t rfl (Ev_t (by omega) (Ev_t (by omega) (Ev_t (by omega) (Ev_f hc (Ev_n rfl))))))
  obtain ⟨b, b1, b2, b3⟩ := go m.length 0 (by omega)
  refine ⟨b, by simp only [spec_l27State.f]; exact b1, by simp only [impl_ValidState.f]; exact b2, fun h => ?_⟩
  obtain ⟨c1, c2, c3⟩ := b3 h
  refine ⟨c1, fun i hi => c2 (i + 1) (by omega) (by omega) hi, fun y hy => ?_⟩
  obtain ⟨j, hj, rfl⟩ := List.mem_iff_getElem.1 hy
  exact c3 j (by omega) hj
theorem note_ev (x : ByteArray) (hx : (x.size : Int) ≤ 1048576) : ∃ b, Ev (fun k => spec_l27Note.f k x) b ∧ Ev (fun k => impl_validNote.f k x) b := by
  have go : ∀ (d i : Nat), i + d = x.size → ∃ b, Ev (fun k => spec_l27Note.l0 k x i) b ∧ Ev (fun k => impl_validNote.l0 k x i) b := by
    intro d
    induction d with
    | zero =>
      intro i h1
      refine ⟨decide ((x.size : Int) ≤ 20), Ev_suc ?_, Ev_suc ?_⟩
      · simp only [spec_l27Note.l0]; exact Ev_f (by omega) (Ev_n rfl)
      · simp only [impl_validNote.l0]; exact Ev_f (by omega) (Ev_n rfl)
    | succ d ih =>
      intro i h1
      by_cases c1 : bt x i < 32
      · refine ⟨false, Ev_suc ?_, Ev_suc ?_⟩
        · simp only [spec_l27Note.l0]; exact Ev_t (by omega) (Ev_t (by omega) (Ev_t c1 (Ev_n rfl)))
        · simp only [impl_validNote.l0]; exact Ev_t (by omega) (Ev_t (by omega) (Ev_t c1 (Ev_n rfl)))
      · by_cases c2 : bt x i > 126
        · refine ⟨false, Ev_suc ?_, Ev_suc ?_⟩
          · simp only [spec_l27Note.l0]; exact Ev_t (by omega) (Ev_t (by omega) (Ev_f c1 (Ev_t c2 (Ev_n rfl))))
          · simp only [impl_validNote.l0]; exact Ev_t (by omega) (Ev_t (by omega) (Ev_f c1 (Ev_t c2 (Ev_n rfl))))
        · obtain ⟨b, b1, b2⟩ := ih (i + 1) (by omega)
          refine ⟨b, Ev_suc ?_, Ev_suc ?_⟩
          · simp only [spec_l27Note.l0]; rw [wr64s i (by omega)]; exact Ev_t (by omega) (Ev_t (by omega) (Ev_f c1 (Ev_f c2 b1)))
          · simp only [impl_validNote.l0]; rw [wr64s i (by omega)]; exact Ev_t (by omega) (Ev_t (by omega) (Ev_f c1 (Ev_f c2 b2)))
  obtain ⟨b, b1, b2⟩ := go x.size 0 (by omega)
  exact ⟨b, by simp only [spec_l27Note.f]; exact b1, by simp only [impl_validNote.f]; exact b2⟩
def Prj (m : List Ver) : Prop := m.length ≤ 16 ∧ ∀ (i : Nat) (hi : i < m.length), m[i].f0 = (i : Int) + 1 ∧ 0 ≤ m[i].f1 ∧ m[i].f1 ≤ i ∧ Sta m[i].f3
theorem project_ev (m : List Ver) (hl : (m.length : Int) ≤ 1048576) (hn : ∀ y ∈ m, (y.f2.size : Int) ≤ 1048576 ∧ (y.f3.length : Int) ≤ 1048576) : ∃ b, Ev (fun k => spec_l27Ok.f k m) b ∧ Ev (fun k => impl_ValidProject.f k m) b ∧ (b = true → Prj m) := by
  have go : ∀ (d i : Nat), i + d = m.length → ∃ b, Ev (fun k => spec_l27Ok.l0 k m i) b ∧ Ev (fun k => impl_ValidProject.l0 k m m (m.length : Int) i) b ∧ (b = true → m.length ≤ 16 ∧ ∀ (j : Nat), i ≤ j → ∀ (hj : j < m.length), m[j].f0 = (j : Int) + 1 ∧ 0 ≤ m[j].f1 ∧ m[j].f1 ≤ j ∧ Sta m[j].f3) := by
    intro d
    induction d with
    | zero =>
      intro i h1
      refine ⟨decide ((m.length : Int) ≤ 16), Ev_suc ?_, Ev_suc ?_, fun h => ⟨by have := of_decide_eq_true h; omega, fun j h2 hj => by omega⟩⟩
      · simp only [spec_l27Ok.l0]; exact Ev_f (by omega) (Ev_n rfl)
      · simp only [impl_ValidProject.l0]; exact Ev_f (by omega) (Ev_n rfl)
    | succ d ih =>
      intro i h1
      have hi : i < m.length := by omega
      obtain ⟨hs1, hs2⟩ := hn m[i] (List.getElem_mem _)
      have w := wr64s i (by omega)
      have step : ∀ b, Ev (fun n => if m[i].f0 = ((i + 1 : Nat) : Int) then (spec_l00In.f m[i].f1 0 (i : Int)).bind fun t103 => (if t103 = true then ((spec_l27Note.f n m[i].f2).bind fun t104 => (if t104 = true then ((spec_l27State.f n m[i].f3).bind fun t105 => (if t105 = true then (spec_l27Ok.l0 n m ((i + 1 : Nat) : Int)) else (some false))) else (some false))) else (some false)) else some false) b →
          Ev (fun n => if m[i].f0 = ((i + 1 : Nat) : Int) then (impl_within.f m[i].f1 0 (i : Int)).bind fun t103 => (if t103 = true then ((impl_validNote.f n m[i].f2).bind fun t104 => (if t104 = true then ((impl_ValidState.f n m[i].f3).bind fun t105 => (if t105 = true then (impl_ValidProject.l0 n m m (m.length : Int) ((i + 1 : Nat) : Int)) else (some false))) else (some false))) else (some false)) else some false) b →
          Ev (fun k => spec_l27Ok.l0 k m i) b ∧ Ev (fun k => impl_ValidProject.l0 k m m (m.length : Int) i) b := by
        intro b q1 q2
        constructor
        · refine Ev_suc ?_
          simp only [spec_l27Ok.l0]
          refine Ev_t (by omega) (Ev_t (by omega) ?_)
          rw [show rd_T29 m (i : Int) = m[i] from rdi_Version m i hi, w]
          exact q1
        · refine Ev_suc ?_
          simp only [impl_ValidProject.l0]
          refine Ev_t (by omega) (Ev_t (by omega) (Ev_t (by omega) ?_))
          rw [show rd_T29 m (i : Int) = m[i] from rdi_Version m i hi, w]
          exact q2
      by_cases c0 : m[i].f0 = ((i + 1 : Nat) : Int)
      case neg =>
        obtain ⟨s1, s2⟩ := step false (Ev_f c0 (Ev_n rfl)) (Ev_f c0 (Ev_n rfl))
        exact ⟨false, s1, s2, fun h => by cases h⟩
      have i1 := in_f m[i].f1 0 (i : Int)
      have i2 := within_f m[i].f1 0 (i : Int)
      by_cases c1 : (decide ((0 : Int) ≤ m[i].f1) && decide (m[i].f1 ≤ (i : Int))) = true
      case neg =>
        have c1' : (decide ((0 : Int) ≤ m[i].f1) && decide (m[i].f1 ≤ (i : Int))) = false := by simpa using c1
        rw [c1'] at i1 i2
        obtain ⟨s1, s2⟩ := step false (Ev_t c0 (Ev_b (Ev_c i1) (Ev_f (by decide) (Ev_n rfl)))) (Ev_t c0 (Ev_b (Ev_c i2) (Ev_f (by decide) (Ev_n rfl))))
        exact ⟨false, s1, s2, fun h => by cases h⟩
      rw [c1] at i1 i2
      simp only [Bool.and_eq_true, decide_eq_true_eq] at c1
      obtain ⟨nb, n1, n2⟩ := note_ev m[i].f2 hs1
      cases nb with
      | false =>
        obtain ⟨s1, s2⟩ := step false (Ev_t c0 (Ev_b (Ev_c i1) (Ev_t rfl (Ev_b n1 (Ev_f (by decide) (Ev_n rfl)))))) (Ev_t c0 (Ev_b (Ev_c i2) (Ev_t rfl (Ev_b n2 (Ev_f (by decide) (Ev_n rfl))))))
        exact ⟨false, s1, s2, fun h => by cases h⟩
      | true =>
        obtain ⟨sb, t1, t2, t3⟩ := state_ev m[i].f3 hs2
        cases sb with
        | false =>
          obtain ⟨s1, s2⟩ := step false (Ev_t c0 (Ev_b (Ev_c i1) (Ev_t rfl (Ev_b n1 (Ev_t rfl (Ev_b t1 (Ev_f (by decide) (Ev_n rfl)))))))) (Ev_t c0 (Ev_b (Ev_c i2) (Ev_t rfl (Ev_b n2 (Ev_t rfl (Ev_b t2 (Ev_f (by decide) (Ev_n rfl))))))))
          exact ⟨false, s1, s2, fun h => by cases h⟩
        | true =>
          obtain ⟨b, b1, b2, b3⟩ := ih (i + 1) (by omega)
          obtain ⟨s1, s2⟩ := step b (Ev_t c0 (Ev_b (Ev_c i1) (Ev_t rfl (Ev_b n1 (Ev_t rfl (Ev_b t1 (Ev_t rfl b1))))))) (Ev_t c0 (Ev_b (Ev_c i2) (Ev_t rfl (Ev_b n2 (Ev_t rfl (Ev_b t2 (Ev_t rfl b2)))))))
          refine ⟨b, s1, s2, fun h => ?_⟩
          obtain ⟨d1, d2⟩ := b3 h
          refine ⟨d1, fun j h2 hj => ?_⟩
          rcases Nat.lt_or_eq_of_le h2 with g | g
          · exact d2 j (by omega) hj
          · subst g; exact ⟨by omega, c1.1, c1.2, t3 rfl⟩
  obtain ⟨b, b1, b2, b3⟩ := go m.length 0 (by omega)
  refine ⟨b, by simp only [spec_l27Ok.f]; exact b1, by simp only [impl_ValidProject.f]; exact b2, fun h => ?_⟩
  obtain ⟨c1, c2⟩ := b3 h
  exact ⟨c1, fun i hi => c2 i (by omega) hi⟩
end Go.Proofs.YthnigkbbmhnafaaDoor.Q
namespace Go.Proofs.YthnigkbbmhnafaaDoor.Q
open Go.RowKit Go.Proofs.YthnigkbbmhnafaaDoorW.PrintWords Go.Proofs.YthnigkbbmhnafaaDoorW.PrintLast Go.Proofs.YthnigkbbmhnafaaDoorW.PrintMore
set_option linter.unusedVariables false
abbrev Bs (l : List UInt8) : ByteArray := ⟨l.toArray⟩
theorem Bs_size (l : List UInt8) : (Bs l).size = l.length := by simp [ByteArray.size]
def digs (u : Nat) : List Int := if h : u = 0 then [] else (48 + (u % 10 : Nat) : Int) :: digs (u / 10)
termination_by u
decreasing_by omega
theorem digs_zero : digs 0 = [] := by rw [digs, dif_pos rfl]
theorem digs_pos {u : Nat} (h : u ≠ 0) : digs u = (48 + (u % 10 : Nat) : Int) :: digs (u / 10) := by rw [digs, dif_neg h]
theorem digs_dec (u : Nat) (h : u ≠ 0) : (digs u).reverse.map (fun n => UInt8.ofNat n.toNat) = Go.Lib.decDigits u := by
  induction u using Nat.strongRecOn with
  | _ u ih =>
    rw [digs_pos h, Go.Lib.decDigits]
    by_cases h10 : u < 10
    · rw [dif_pos h10, show u / 10 = 0 by omega, digs_zero, Nat.mod_eq_of_lt h10]
      simp only [List.reverse_cons, List.reverse_nil, List.nil_append, List.map_cons, List.map_nil]
      rw [show (48 + (u : Int)).toNat = 48 + u by omega]
    · rw [dif_neg h10, List.reverse_cons, List.map_append, ih (u / 10) (by omega) (by omega)]
      simp only [List.map_cons, List.map_nil]
      rw [show (48 + ((u % 10 : Nat) : Int)).toNat = 48 + u % 10 by omega]
def its (n : Int) : ByteArray := Bs (Go.Lib.itoa n)
theorem rev_ev (x3 : List Int) (hl : x3.length ≤ 1000) : ∀ (j : Nat) (x6 : List Int), j ≤ x3.length → x6.length + j ≤ 1000 → Ev (fun k => spec_l01Dec.l1 k x3 x6 ((j : Int) - 1)) (strOfNums (x6 ++ (x3.take j).reverse))
  | 0, x6, _, _ => by
    refine Ev_suc ?_
    simp only [spec_l01Dec.l1]
    exact Ev_f (by omega) (Ev_n (by simp))
  | j + 1, x6, h, h2 => by
    refine Ev_suc ?_
    simp only [spec_l01Dec.l1]
    have e : ((j + 1 : Nat) : Int) - 1 = (j : Int) := by omega
    rw [e]
    refine Ev_t (by omega) (Ev_t (by omega) (Ev_t (by omega) (Ev_t (by omega) ?_)))
    rw [wr64 (x := (j : Int) - 1) (by omega) (by omega)]
    have hr : rd x3 (j : Int) = x3[j] := by unfold rd; exact getD_in x3 _ j (by omega)
    have := rev_ev x3 hl j (x6 ++ [rd x3 (j : Int)]) (by omega) (by simp; omega)
    refine Ev_at this ?_
    rw [hr, List.take_succ_eq_append_getElem (by omega), List.reverse_append]
    simp
theorem dec_loop (n0 : Int) : ∀ (d u : Nat) (x3 : List Int) (m : Int), u < 10 ^ d → d ≤ 19 → x3.length + d ≤ 30 → m = (if n0 < 0 then -(u : Int) else (u : Int)) → Ev (fun k => spec_l01Dec.l0 k n0 x3 m) (strOfNums ((x3 ++ digs u ++ (if n0 < 0 then [45] else [])).reverse)) := by
  have fin : ∀ (x : List Int), x.length ≤ 100 → Ev (fun k => spec_l01Dec.j1 k x) (strOfNums x.reverse) := fun x hx => by
    refine Ev_suc ?_
    simp only [spec_l01Dec.j1]
    rw [wr64 (x := (x.length : Int) - 1) (by omega) (by omega)]
    have := rev_ev x (by omega) x.length [] (Nat.le_refl _) (by simp; omega)
    simpa using this
  have stop : ∀ (x3 : List Int), x3.length ≤ 50 → Ev (fun k => spec_l01Dec.l0 k n0 x3 0) (strOfNums ((x3 ++ (if n0 < 0 then [45] else [])).reverse)) := fun x3 h => by
    refine Ev_suc ?_
    simp only [spec_l01Dec.l0]
    refine Ev_t (by simp) ?_
    by_cases c : n0 < 0
    · rw [if_pos c]
      exact Ev_t c (Ev_t (by omega) (fin _ (by simp; omega)))
    · rw [if_neg c, List.append_nil]
      exact Ev_f c (fin _ (by omega))
  intro d
  induction d with
  | zero =>
    intro u x3 m hu hd hl hm
    have : u = 0 := by simpa using hu
    subst this
    have hm0 : m = 0 := by rw [hm]; split <;> rfl
    subst hm0
    rw [digs_zero, List.append_nil]
    exact stop x3 (by omega)
  | succ d ih =>
    intro u x3 m hu hd hl hm
    by_cases h0 : u = 0
    · subst h0
      have hm0 : m = 0 := by rw [hm]; split <;> rfl
      subst hm0
      rw [digs_zero, List.append_nil]
      exact stop x3 (by omega)
    · have hu2 : u / 10 < 10 ^ d := by rw [Nat.pow_succ] at hu; omega
      have hbig : u < 10000000000000000000 := Nat.lt_of_lt_of_le hu (Nat.le_trans (Nat.pow_le_pow_right (by decide) hd) (by decide))
      refine Ev_suc ?_
      simp only [spec_l01Dec.l0]
      have step := ih (u / 10) (x3 ++ [48 + ((u % 10 : Nat) : Int)]) (if n0 < 0 then -((u / 10 : Nat) : Int) else ((u / 10 : Nat) : Int)) hu2 (by omega) (by simp; omega) rfl
      rw [List.append_assoc x3, List.singleton_append, ← digs_pos h0] at step
      by_cases c : n0 < 0
      · rw [if_pos c] at hm step
        subst hm
        have e1 : Int.tmod (-(u : Int)) 10 = -((u % 10 : Nat) : Int) := by rw [Int.neg_tmod, Int.tmod_eq_emod_of_nonneg (by omega)]; omega
        have e2 : Int.tdiv (-(u : Int)) 10 = -((u / 10 : Nat) : Int) := by rw [Int.neg_tdiv, Int.tdiv_eq_ediv_of_nonneg (by omega)]; omega
        refine Ev_f (by omega) ?_
        rw [e1, e2, wr64 (x := -((u / 10 : Nat) : Int)) (by omega) (by omega)]
        by_cases cz : u % 10 = 0
        · refine Ev_f (by omega) (Ev_t (by omega) ?_)
          rw [wr64 (x := 48 + -((u % 10 : Nat) : Int)) (by omega) (by omega), show (48 + -((u % 10 : Nat) : Int)) % 256 = 48 + ((u % 10 : Nat) : Int) by omega]
          exact step
        · refine Ev_t (by omega) (Ev_t (by omega) ?_)
          rw [wr64 (x := - -((u % 10 : Nat) : Int)) (by omega) (by omega), wr64 (x := 48 + - -((u % 10 : Nat) : Int)) (by omega) (by omega), show (48 + - -((u % 10 : Nat) : Int)) % 256 = 48 + ((u % 10 : Nat) : Int) by omega]
          exact step
      · rw [if_neg c] at hm step
        subst hm
        have e1 : Int.tmod (u : Int) 10 = ((u % 10 : Nat) : Int) := by rw [Int.tmod_eq_emod_of_nonneg (by omega)]; omega
        have e2 : Int.tdiv (u : Int) 10 = ((u / 10 : Nat) : Int) := by rw [Int.tdiv_eq_ediv_of_nonneg (by omega)]; omega
        refine Ev_f (by omega) ?_
        rw [e1, e2, wr64 (x := ((u / 10 : Nat) : Int)) (by omega) (by omega)]
        refine Ev_f (by omega) (Ev_t (by omega) ?_)
        rw [wr64 (x := 48 + ((u % 10 : Nat) : Int)) (by omega) (by omega), show (48 + ((u % 10 : Nat) : Int)) % 256 = 48 + ((u % 10 : Nat) : Int) by omega]
        exact step
theorem dec_ev (n : Int) (h0 : -9223372036854775808 ≤ n) (h1 : n ≤ 9223372036854775807) : Ev (fun k => spec_l01Dec.f k n) (its n) := by
  simp only [spec_l01Dec.f]
  by_cases c : n = 0
  · subst c
    refine Ev_t rfl (Ev_n ?_)
    unfold its Go.Lib.itoa
    rw [if_neg (by decide), Go.Lib.decDigits, dif_pos (by decide)]
    rfl
  · refine Ev_f c ?_
    have := dec_loop n 19 n.natAbs [] n (by rw [show (10 : Nat) ^ 19 = 10000000000000000000 by decide]; omega) (by omega) (by simp) (by split <;> omega)
    refine Ev_at this ?_
    rw [List.nil_append, List.reverse_append]
    have hd := digs_dec n.natAbs (by omega)
    unfold its Go.Lib.itoa strOfNums Bs
    by_cases cn : n < 0
    · rw [if_pos cn, if_pos cn, List.map_append, hd]; rfl
    · rw [if_neg cn, if_neg cn, List.map_append, hd, show n.toNat = n.natAbs by omega]; rfl
theorem Decimal_f (n : Int) (h0 : -9223372036854775808 ≤ n) (h1 : n ≤ 9223372036854775807) : impl_Decimal.f n = some (its n) := by
  unfold impl_Decimal.f strconv_FormatInt_42.f
  rw [if_pos ⟨rfl, h0, h1⟩]
  rfl
end Go.Proofs.YthnigkbbmhnafaaDoor.Q
namespace Go.Proofs.YthnigkbbmhnafaaDoor.Q
open Go.RowKit Go.Proofs.YthnigkbbmhnafaaDoorW.PrintWords Go.Proofs.YthnigkbbmhnafaaDoorW.PrintLast Go.Proofs.YthnigkbbmhnafaaDoorW.PrintMore
set_option linter.unusedVariables false
theorem mkh_ev (l : List Ver) (hl : (l.length : Int) ≤ 1048576) (hs : ∀ y ∈ l, (y.f3.length : Int) ≤ 1048576) : ∃ r l', 0 ≤ r ∧ r ≤ 10000000000000 ∧ Ev (fun k => laws_markVersionS.f k l 1) (r, l') ∧ Ev (fun k => laws_heldVersionS.f k l' 1) r := by
  have go : ∀ (q p : List Ver) (i : Nat) (c : Int), (∀ y ∈ q, (y.f3.length : Int) ≤ 1048576) → p.length = i → 0 ≤ c → c ≤ 1 + 5000000 * (i : Int) → (i : Int) + q.length ≤ 1048576 → ∃ r q', 0 ≤ r ∧ r ≤ 10000000000000 ∧ q'.length = q.length ∧ Ev (fun k => laws_markVersionS.l0 k (p ++ q) c i) (r, p ++ q') ∧ ∀ z : List Ver, z.length = i → Ev (fun k => laws_heldVersionS.l0 k (z ++ q') c i) r := by
    intro q
    induction q with
    | nil =>
      intro p i c q0 q1 q2 q3 q4
      refine ⟨c, [], q2, by simp only [List.length_nil] at q4; omega, rfl, Ev_suc ?_, fun z hz => Ev_suc ?_⟩
      · simp only [laws_markVersionS.l0]
        exact Ev_f (by simp; omega) (Ev_n rfl)
      · simp only [laws_heldVersionS.l0]
        exact Ev_f (by simp; omega) (Ev_n rfl)
    | cons x q ih =>
      intro p i c q0 q1 q2 q3 q4
      simp only [List.length_cons] at q4
      have hx := q0 x (List.mem_cons_self ..)
      have e0 : wrap64 (c + 1) = c + 1 := (wr64 (by omega) (by omega)).trans (by omega)
      have e1 : wrap64 (c + 1 + 1) = c + 2 := (wr64 (by omega) (by omega)).trans (by omega)
      have e2 : wrap64 (c + 2 + 1) = c + 3 := (wr64 (by omega) (by omega)).trans (by omega)
      obtain ⟨t0, ht0⟩ := markText_ev (c + 2) (by omega) (by omega)
      obtain ⟨st, _, hst, hst2⟩ := mk_Entry x.f3 (c + 3) (by omega) (by omega) (by omega)
      obtain ⟨r, q', hr, hr2, hq', he, hh⟩ := ih (p ++ [(⟨c, c + 1, t0, st⟩ : Ver)]) (i + 1) (c + 3 + 4 * x.f3.length) (fun y hy => q0 y (List.mem_cons_of_mem _ hy)) (by simp; omega) (by omega) (by omega) (by omega)
      refine ⟨r, ⟨c, c + 1, t0, st⟩ :: q', hr, hr2, by simp [hq'], Ev_suc ?_, fun z hz => Ev_suc ?_⟩
      · simp only [laws_markVersionS.l0, e0, e1, e2, set_at p q _ _ i q1, rda_Version p q _ i q1]
        refine Ev_t (by simp; omega) (Ev_b ht0 (Ev_b hst (Ev_t (by omega) ?_)))
        rw [wr64s i (by omega)]
        rw [List.append_assoc, List.singleton_append, List.append_assoc, List.singleton_append] at he
        exact he
      · simp only [laws_heldVersionS.l0, e0, e1, e2, rda_Version z q' _ i hz]
        refine Ev_t (by simp; omega) (Ev_t (by omega) (Ev_t True.intro (Ev_t True.intro (Ev_b ht0 (Ev_t rfl (Ev_b hst2 (Ev_f (by omega) ?_)))))))
        rw [wr64s i (by omega)]
        have hh' := hh (z ++ [(⟨c, c + 1, t0, st⟩ : Ver)]) (by simp; omega)
        rw [List.append_assoc, List.singleton_append] at hh'
        exact hh'
  obtain ⟨r, l', h1, h2, _, h3, h4⟩ := go l [] 0 1 hs rfl (by omega) (by omega) (by simpa using hl)
  refine ⟨r, l', h1, h2, ?_, ?_⟩
  · simp only [laws_markVersionS.f]; exact h3
  · simp only [laws_heldVersionS.f]; exact h4 [] rfl
theorem own_ev (m : List Ver) (hm : m.length ≤ 16) (hs : ∀ y ∈ m, (y.f3.length : Int) ≤ 1048576) : Ev (fun k => spec_l27Own.f k m) m := by
  have go : ∀ (d i : Nat), i + d = m.length → Ev (fun k => spec_l27Own.l0 k m (m.take i) i) m := by
    intro d
    induction d with
    | zero =>
      intro i h
      refine Ev_suc ?_
      simp only [spec_l27Own.l0]
      exact Ev_f (by omega) (Ev_n (by rw [List.take_of_length_le (by omega)]))
    | succ d ih =>
      intro i h
      have hi : i < m.length := by omega
      have h1 := hs m[i] (List.getElem_mem _)
      refine Ev_suc ?_
      simp only [spec_l27Own.l0]
      rw [rdi_Version m i hi, wr64s i (by omega)]
      have := ih (i + 1) (by omega)
      rw [List.take_succ_eq_append_getElem hi] at this
      exact Ev_t (by omega) (Ev_t (by omega) (Ev_b (Ev_n rfl) (Ev_t (by simp only [List.length_nil]; omega) (Ev_t (by rw [List.length_take]; omega) this))))
  simp only [spec_l27Own.f]
  exact go m.length 0 (by omega)
theorem add_ev (m : List Ver) (a : Int) (nt : ByteArray) (st : List Ent) (hm : m.length ≤ 16) (hs : ∀ y ∈ m, (y.f3.length : Int) ≤ 1048576) (hst : (st.length : Int) ≤ 1048576) : ∃ (r0 : List Ver) (r1 : Int), (r0 = [] ∨ r0 = m ++ [⟨(m.length : Int) + 1, a, nt, st⟩]) ∧ Ev (fun k => spec_l27Add.f k m a nt st) (r0, r1) ∧ Ev (fun k => impl_addVersion.f k m a nt st) (r0, r1) := by
  by_cases c : (m.length : Int) = 16
  · refine ⟨[], 5, .inl rfl, ?_, ?_⟩
    · simp only [spec_l27Add.f]; exact Ev_t c (Ev_n rfl)
    · simp only [impl_addVersion.f]; exact Ev_t c (Ev_n rfl)
  have hw : wrap64 ((m.length : Int) + 1) = (m.length : Int) + 1 := wr64 (by omega) (by omega)
  refine ⟨m ++ [⟨(m.length : Int) + 1, a, nt, st⟩], 0, .inr rfl, ?_, ?_⟩
  · simp only [spec_l27Add.f, hw]
    exact Ev_f c (Ev_b (Ev_n rfl) (Ev_t (by simp only [List.length_nil]; omega) (Ev_b (own_ev m hm hs) (Ev_b (Ev_n rfl) (Ev_t (by simp only [List.length_cons, List.length_nil]; omega) (Ev_n (by simp)))))))
  · simp only [impl_addVersion.f, hw]
    obtain ⟨y, hy⟩ : ∃ y : List Ver, y = m ++ [⟨(m.length : Int) + 1, a, nt, st⟩] := ⟨_, rfl⟩
    have hyl : y.length = m.length + 1 := by rw [hy]; simp
    have hys : ∀ z ∈ y, (z.f3.length : Int) ≤ 1048576 := by
      intro z hz
      rw [hy] at hz
      rcases List.mem_append.1 hz with h | h
      · exact hs z h
      · rw [List.mem_singleton.1 h]; exact hst
    have go : ∀ (d i : Nat), i + d = y.length → Ev (fun k => impl_addVersion.l0 k (y.take i) y (y.length : Int) i) (y, 0) := by
      intro d
      induction d with
      | zero =>
        intro i h
        refine Ev_suc ?_
        simp only [impl_addVersion.l0]
        exact Ev_f (by omega) (Ev_n (by rw [List.take_of_length_le (by omega)]))
      | succ d ih =>
        intro i h
        have hi : i < y.length := by omega
        have h1 := hys y[i] (List.getElem_mem _)
        refine Ev_suc ?_
        simp only [impl_addVersion.l0]
        rw [rdi_Version y i hi, wr64s i (by omega)]
        have := ih (i + 1) (by omega)
        rw [List.take_succ_eq_append_getElem hi] at this
        refine Ev_t (by omega) (Ev_t (by omega) (Ev_t (by omega) (Ev_b (a := y[i].f3) (Ev_c ?_) (Ev_t (by rw [List.length_take]; omega) this))))
        unfold impl_Entry.f
        rw [if_pos (by omega)]
    have hc : impl_Version.f m = some m := by
      unfold impl_Version.f
      simp only [Option.bind_some, List.length_nil, List.nil_append]
      rw [if_pos (by omega)]
    rw [hc]
    refine Ev_f c (Ev_b (Ev_n rfl) (Ev_t (by omega) (Ev_b (Ev_n rfl) ?_)))
    rw [← hy]
    exact go y.length 0 (by omega)
theorem added (P : Ver → Prop) (m : List Ver) (v : Ver) (r : List Ver) (h : r = [] ∨ r = m ++ [v]) (hm : ∀ y ∈ m, P y) (hv : P v) : ∀ y ∈ r, P y := by
  rcases h with rfl | rfl
  · intro y hy; cases hy
  · intro y hy
    rcases List.mem_append.1 hy with h | h
    · exact hm y h
    · rw [List.mem_singleton.1 h]; exact hv
theorem its_small (n : Int) (h0 : -1000000 ≤ n) (h1 : n ≤ 1000000) : (its n).size ≤ 21 := by
  unfold its
  rw [Bs_size]
  exact Go.Lib.itoa_length_le n (by omega) (by omega)
theorem undo_ev (m : List Ver) (hl : (m.length : Int) ≤ 1048576) (hn : ∀ y ∈ m, (y.f2.size : Int) ≤ 1048576 ∧ (y.f3.length : Int) ≤ 1048576) (hE : ∀ y ∈ m, E_Version y) (a : Int) : ∃ (r0 : List Ver) (r1 : Int), (r0.length : Int) ≤ 17 ∧ (∀ y ∈ r0, E_Version y ∧ (y.f3.length : Int) ≤ 1048576) ∧ Ev (fun k => spec_UndoVersion.f k m a) (r0, r1) ∧ Ev (fun k => impl_UndoVersion.f k m a) (r0, r1) := by
  obtain ⟨ok, e1, e2, hok⟩ := project_ev m hl hn
  have ra : rd [a] 0 = a := rfl
  simp only [spec_UndoVersion.f, impl_UndoVersion.f]
  cases ok with
  | false =>
    refine ⟨[], 1, by simp, by simp, Ev_b e1 (Ev_f (by decide) (Ev_n rfl)), Ev_b (a := 1) ?_ (Ev_f (by decide) (Ev_n rfl))⟩
    simp only [impl_projectCode.f]
    exact Ev_b e2 (Ev_f (by decide) (Ev_n rfl))
  | true =>
    have hm := hok rfl
    obtain ⟨hlen, hel⟩ := hm
    have na : spec_l27Number.f m a = some (decide (1 ≤ a) && decide (a ≤ (m.length : Int))) := by unfold spec_l27Number.f; rw [in_f]; rfl
    have wa : impl_within.f a 1 (m.length : Int) = some (decide (1 ≤ a) && decide (a ≤ (m.length : Int))) := within_f a 1 _
    have code : ∀ c, Ev (fun k => impl_projectCode.l0 k m [a] 1 0) c → Ev (fun k => impl_projectCode.f k m [a]) c := fun c h => by
      simp only [impl_projectCode.f]
      exact Ev_b e2 (Ev_t rfl h)
    by_cases ca : (decide (1 ≤ a) && decide (a ≤ (m.length : Int))) = true
    case neg =>
      refine ⟨[], 3, by simp, by simp, Ev_b e1 (Ev_t rfl (Ev_b (Ev_c na) (Ev_f ca (Ev_n rfl)))), Ev_b (a := 3) (code 3 (Ev_suc ?_)) (Ev_f (by decide) (Ev_n rfl))⟩
      simp only [impl_projectCode.l0, ra]
      exact Ev_t (by decide) (Ev_t (by decide) (Ev_t (by simp) (Ev_b (Ev_c wa) (Ev_f ca (Ev_n rfl)))))
    have ca2 := ca
    simp only [Bool.and_eq_true, decide_eq_true_eq] at ca2
    obtain ⟨u, hu⟩ := Int.eq_ofNat_of_zero_le (show 0 ≤ a by omega)
    have hu1 : u - 1 < m.length := by omega
    have ew : wrap64 (a - 1) = ((u - 1 : Nat) : Int) := by rw [wr64 (by omega) (by omega)]; omega
    have er : rd_T29 m ((u - 1 : Nat) : Int) = m[u - 1]'hu1 := rdi_Version m (u - 1) hu1
    obtain ⟨_, p0, p1, _⟩ := hel (u - 1) hu1
    obtain ⟨st, hst, hsE, g1, g2⟩ : ∃ st : List Ent, (st.length : Int) ≤ 1048576 ∧ (∀ y ∈ st, E_Entry y) ∧ spec_l27StateOf.f m (m[u - 1]'hu1).f1 = some st ∧ impl_stateOf.f m (m[u - 1]'hu1).f1 = some st := by
      obtain ⟨p, hp⟩ := Int.eq_ofNat_of_zero_le p0
      by_cases c0 : (m[u - 1]'hu1).f1 = 0
      · refine ⟨[], by simp, by simp, ?_, ?_⟩
        · unfold spec_l27StateOf.f; rw [if_pos c0]
        · unfold impl_stateOf.f; rw [if_pos c0]
      · have hq : p - 1 < m.length := by omega
        have e : wrap64 ((m[u - 1]'hu1).f1 - 1) = ((p - 1 : Nat) : Int) := by rw [hp, wr64 (by omega) (by omega)]; omega
        refine ⟨(m[p - 1]'hq).f3, (hn _ (List.getElem_mem hq)).2, (hE _ (List.getElem_mem hq)).2, ?_, ?_⟩
        · unfold spec_l27StateOf.f
          rw [if_neg c0, e, if_pos (by omega), if_pos (by omega), rdi_Version m (p - 1) hq]
        · unfold impl_stateOf.f
          rw [if_neg c0, e, if_pos (by omega), if_pos (by omega), rdi_Version m (p - 1) hq]
    have hz := its_small a (by omega) (by omega)
    obtain ⟨r0, r1, hr, s1, s2⟩ := add_ev m a ((⟨#[117, 110, 100, 111, 32]⟩ : ByteArray) ++ its a) st hlen (fun y hy => (hn y hy).2) hst
    refine ⟨r0, r1, ?_, ?_, ?_, ?_⟩
    · rcases hr with rfl | rfl
      · simp
      · simp; omega
    · exact added (fun y => E_Version y ∧ (y.f3.length : Int) ≤ 1048576) _ _ _ hr (fun y hy => ⟨hE y hy, (hn y hy).2⟩) ⟨⟨hst, hsE⟩, hst⟩
    · rw [ew, er]
      exact Ev_b e1 (Ev_t rfl (Ev_b (Ev_c na) (Ev_t ca (Ev_b (dec_ev a (by omega) (by omega)) (Ev_t (by omega) (Ev_t (by omega) (Ev_t (by omega) (Ev_b (Ev_c g1) (Ev_b s1 (Ev_n rfl))))))))))
    · rw [ew, er]
      refine Ev_b (a := 0) (code 0 (Ev_suc ?_)) (Ev_t rfl (Ev_b (Ev_c (Decimal_f a (by omega) (by omega))) (Ev_t (by omega) (Ev_t (by omega) (Ev_t (by omega) (Ev_b (Ev_c g2) (Ev_b s2 (Ev_n rfl))))))))
      simp only [impl_projectCode.l0, ra]
      refine Ev_t (by decide) (Ev_t (by decide) (Ev_t (by simp) (Ev_b (Ev_c wa) (Ev_t ca (Ev_suc ?_)))))
      rw [show wrap64 ((0 : Int) + 1) = 1 by rw [wr64 (by omega) (by omega)]; rfl]
      simp only [impl_projectCode.l0]
      exact Ev_f (by decide) (Ev_n rfl)
end Go.Proofs.YthnigkbbmhnafaaDoor.Q
namespace Go.Proofs.YthnigkbbmhnafaaDoor.Q
open Go.RowKit Go.Proofs.YthnigkbbmhnafaaDoorW.PrintWords Go.Proofs.YthnigkbbmhnafaaDoorW.PrintLast Go.Proofs.YthnigkbbmhnafaaDoorW.PrintMore
set_option linter.unusedVariables false
theorem law_UndoVersion : laws_FnExactUndoVersion.Pure := by
  intro x a hx ha
  have hM : maxLen = 9223372036854775807 := by decide
  refine Ev.rounds (r := true) ?_
  simp only [laws_FnExactUndoVersion.f]
  refine Ev_b (szS_Version x hx.1 hx.2 (1048576) (by omega) (by omega)) ?_
  by_cases cx : ((ZS_Version x : Nat) : Int) ≤ 1048576
  case neg => rw [cut_neg cx]; exact Ev_t (by decide) (Ev_n rfl)
  rw [cut_pos cx]
  refine Ev_f (by omega) ?_
  have nx : (x.length : Int) ≤ 1048576 := by have := (ZS_in_Version x).1; omega
  have bx : ∀ q_ ∈ x, B_Version q_ := fun q_ hq_ => B_of_Version q_ (by have := (ZS_in_Version x).2 q_ hq_; omega)
  have mx : ((x.map conv_Version).length : Int) ≤ 1048576 := by simpa using nx
  have Ex : ∀ q_ ∈ x.map conv_Version, E_Version q_ := fun y hy => by obtain ⟨u, hu, rfl⟩ := List.mem_map.1 hy; exact E_of_Version u (bx u hu)
  have tx := toS_Version x nx bx
  have qx := eqS_Version (x.map conv_Version) mx Ex
  have zx : ∀ q_ ∈ x.map conv_Version, ∃ u ∈ x, conv_Version u = q_ ∧ ((Z_Version u : Nat) : Int) ≤ 1048576 := fun y hy => by obtain ⟨u, hu, e⟩ := List.mem_map.1 hy; exact ⟨u, hu, e, by have := (ZS_in_Version x).2 u hu; omega⟩
  have vnx : ∀ y ∈ x.map conv_Version, (y.f2.size : Int) ≤ 1048576 ∧ (y.f3.length : Int) ≤ 1048576 := (fun y hy => by obtain ⟨u_, _, rfl, h_⟩ := zx y hy; unfold Z_Version at h_; have := (ZS_in_Entry u_.f3).1; exact ⟨by show ((u_.f2.size : Nat) : Int) ≤ 1048576; omega, by show (((u_.f3.map conv_Entry).length : Nat) : Int) ≤ 1048576; rw [List.length_map]; omega⟩)
  obtain ⟨r0, r1, hr0, hq, e1, e2⟩ := undo_ev (x.map conv_Version) mx vnx Ex a
  have qr0 := eqS_Version r0 (by omega) (fun y hy => (hq y hy).1)
  obtain ⟨Rx, px, hRx, hRb, mmx, _⟩ := mkh_ev (x.map conv_Version) mx (fun y hy => (vnx y hy).2)
  obtain ⟨Rr, pr, hRr, _, mr0, hdr0⟩ := mkh_ev r0 (by omega) (fun y hy => (hq y hy).2)
  repeat' (first | ((first | (with_reducible refine Ev_b e1 ?_) | (with_reducible refine Ev_b e2 ?_) | (with_reducible refine Ev_b tx ?_) | (with_reducible refine Ev_b qx ?_) | (with_reducible refine Ev_b qr0 ?_) | (with_reducible refine Ev_b mmx ?_) | (with_reducible refine Ev_b mr0 ?_) | (with_reducible refine Ev_b hdr0 ?_)); try dsimp only) | (with_reducible refine Ev_t rfl ?_) | (with_reducible refine Ev_t True.intro ?_) | (refine Ev_f (by omega) ?_) | (refine Ev_t (by omega) ?_) | (refine Ev_f (by simp) ?_) | exact Ev_n rfl | (refine Ev_suc ?_; first | simp only [laws_FnExactUndoVersion.j0] | simp only [laws_FnExactUndoVersion.j1] | simp only [laws_FnExactUndoVersion.j2]))
end Go.Proofs.YthnigkbbmhnafaaDoor.Q
namespace Go.Proofs.YthnigkbbmhnafaaDoor.Pure
open Go.Proofs.YthnigkbbmhnafaaDoor.Q
theorem FnExactUndoVersion : laws_FnExactUndoVersion.Pure := law_UndoVersion
end Go.Proofs.YthnigkbbmhnafaaDoor.Pure
namespace Go.Proofs.YthnigkbbmhnafaaDoor.OPN
open Go
theorem wrap_and_shaped {H : Type} {enc : TypeId × Value → H} {a : Assume} {C : Checked} {os : Os} {f : FuncId} {fn : Func} {s : ChangeSpec} {conds : List PathCond} {apart fresh handsOn again : Bool} {X : World → Array Value → Prop}
    (hX : ∀ (w w' : World) (args : Array Value), w.heap = w'.heap → X w args → X w' args)
    (own : ownKnob C.prog.godebug = none) (started : os.Started) (noInit : C.prog.inits.idxOf? f = none) (hfn : C.prog.funcs[f]? = some fn)
    (witness : ∃ (w : World) (tape : Tape) (i : Input), w.os = os ∧ (w.forCall tape i).Shaped C.prog ∧ i.vars = [] ∧ Input.okWide C.prog (w.forCall tape i) .any w.heap.size f i ∧
      ((s.pre enc C.prog fn conds apart (w.forCall tape i).memory i.args ∧ X (w.forCall tape i).memory i.args) ∧ sizedMet enc C.prog fn (OpenSpec.ofChange s) apart (w.forCall tape i).memory i.args) ∧ a.holds C.prog (lone (Frame.enter C.prog f i.args .normal) [] (w.forCall tape i)))
    (contract : ∀ (W : World) (base : Nat) (args : Array Value) (ds gs : List (DataW H)) (before : List MemPlace),
      (∀ (j : Nat) t v, fn.params[j]? = some t → args[j]? = some v → Value.okWide C.prog W .any base t v) →
      DataW.Whole enc C.prog fn.params.toList s.vars apart W args.toList ds gs before →
      conds.all (PathCond.test C.prog ⟨fn.params.toList, ds, s.plain.varTypes C.prog, gs⟩) = true →
      (DataW.weightsEach C.prog (fn.params.toList ++ s.plain.varTypes C.prog) (ds ++ gs)).all (· ≤ reachBytes) = true → X W args → W.ShapedOpen C.prog →
      a.holds C.prog (lone (Frame.enter C.prog f args .normal) [] W) →
      Calls C.prog f args W fun e W' => ∃ v, e = .returned v ∧ s.post enc C.prog fn apart fresh handsOn again W args v W') :
    ReturnsInHanded a C os f .any (fun w args => (s.pre enc C.prog fn conds apart w args ∧ X w args) ∧ sizedMet enc C.prog fn (OpenSpec.ofChange s) apart w args) (s.post enc C.prog fn apart fresh handsOn again) := by
  refine returnsInHanded_of_calls own started noInit witness ?_
  intro w tape i _ hsh _ hok hpre hholds
  obtain ⟨_, _, _, fn', hfn', _, _, _, _, hval⟩ := hok
  have e : fn' = fn := Option.some.inj (hfn'.symm.trans hfn)
  subst e
  obtain ⟨⟨⟨ds, gs, before, hw, hc⟩, hx⟩, hz⟩ := hpre
  have hw' := DataW.Whole.of_heap (w' := w.forCall tape i) (by rfl) hw
  refine (contract (w.forCall tape i) w.heap.size i.args ds gs before hval hw' hc (hz.weights hw) (hX _ _ _ (by rfl) hx) hsh hholds).mono fun e W' ⟨v, he, hp⟩ => ?_
  subst he
  exact ChangeSpec.post_blind hp
end Go.Proofs.YthnigkbbmhnafaaDoor.OPN
namespace Go.Proofs.YthnigkbbmhnafaaDoor.fnExactUndoVersion
open Go.ChangeShapes Go.WideShapes Go.ChangeAt Go.RowKit Go.Proofs.YthnigkbbmhnafaaDoor.OPN Go.Proofs.YthnigkbbmhnafaaDoor.Q Go.Proofs.YthnigkbbmhnafaaDoorW.PrintWords
open Go.ChangeMaps (open_string shut_string)
set_option linter.unusedVariables false
theorem own : ownKnob Tryd.prog.godebug = none := by kernel_rfl
theorem laidOut : laidOutB Tryd.prog = true := by kernel_rfl
theorem tab_of {W : World} (hL : laidMetH Tryd.prog Rows.fnExactUndoVersionRow.laid W) (hsh : W.ShapedOpen Tryd.prog) : Tab_ W := by
  refine ⟨?_, ?_⟩
  · have hl := hL
    rw [MakeChecks.laidMetH_plain _ _ _ (by kernel_rfl)] at hl
    have h1 := (laidMet.tail (laidMet.tail hl))
    have e_ : (Rows.laid_internal_strconv_uint64pow10 : DataW Unit) = Lib.tabData .u64 Lib.pow10Tab := by rfl
    refine Lib.tabIs_of_head (g := 0) (t := 99) (e := 88) (n := 20) (rest := []) (by kernel_rfl) (by kernel_rfl) Tryd.underlying99 Tryd.underlying88 (by kernel_rfl) (by kernel_rfl) ?_
    rw [← e_]
    exact h1
  · trivial
set_option maxRecDepth 100000 in
theorem lifted (os : Os) (started : os.Started) (H : Type) (enc : TypeId × Value → H) :
    ReturnsInHanded {} Tryd.checked os 4 .any (fun w args => (Rows.fnExactUndoVersionSpec.pre enc Tryd.prog Tryd.f4 Rows.fnExactUndoVersionRow.domain false w args ∧ laidMetH Tryd.prog Rows.fnExactUndoVersionRow.laid w) ∧ sizedMet enc Tryd.prog Tryd.f4 (OpenSpec.ofChange Rows.fnExactUndoVersionSpec) false w args) (Rows.fnExactUndoVersionSpec.post enc Tryd.prog Tryd.f4 false true false false) := by
  refine wrap_and_shaped (C := Tryd.checked) (X := fun w _ => laidMetH Tryd.prog Rows.fnExactUndoVersionRow.laid w) (fun _ _ _ hh h => h.of_heap hh) own started (by kernel_rfl) Tryd.func4
    (ChangeSpec.witness_shaped (enc := enc) (C := Tryd.checked) (os := os) (X := fun w _ => laidMetH Tryd.prog Rows.fnExactUndoVersionRow.laid w) false (World.laidAll Tryd.prog os Rows.fnExactUndoVersionRow.laid) #[.slice none 0 0, .int .i64 0] 8 (World.laidAll_os _ _ _) (World.shaped_of_ZipB (by kernel_rfl) (by kernel_rfl)) (by kernel_rfl) (by kernel_rfl) (by kernel_rfl) (by rw [MakeChecks.laidMetH_plain _ _ _ (by kernel_rfl)]; exact laidMet_laidAll _ (by kernel_rfl) (by kernel_rfl))) ?_
  intro W base args ds gs before hval0 hW hcnd hsz0 hL hsh _
  have hTab := tab_of hL hsh
  clear hL hsh
  have hval : ∀ (j : Nat) t v, Tryd.f4.params[j]? = some t → args[j]? = some v → Value.okWide Tryd.prog W .any base t v := hval0
  have hW' := hW
  obtain ⟨p, q, hA0, hV, rfl, hfz, hnd⟩ := hW
  have hA : DataW.TrodAll enc Tryd.prog W 0 (fun _ => true) true Tryd.f4.params.toList args.toList ds p := hA0
  rw [Tryd.params4] at hA hval
  obtain ⟨v0, vs0, d0, ds0, p0, q0, hargs, rfl, rfl, h0, r0⟩ := trodAll_cons hA
  obtain ⟨v1, vs1, d1, ds1, p1, q1, rfl, rfl, rfl, h1, r1⟩ := trodAll_cons r0
  obtain ⟨rfl, rfl, rfl⟩ := trodAll_nil r1
  obtain rfl : args = #[v0, v1] := by cases args; simp_all
  obtain ⟨rfl, rfl⟩ := trodVars_none hV
  have lt0 : ∀ x ∈ p0, x.block < W.heap.size := by obtain ⟨m, hm⟩ := h0; exact DataW.trod_lt m _ _ _ hm
  have k0 := h0
  obtain ⟨z0, y0, u0, rfl⟩ := okWide_slice Tryd.underlying33 (hval 0 33 v0 rfl rfl)
  obtain ⟨fu0, hf0⟩ := h0
  obtain ⟨x0, ⟨A0, c0, hcs0, hc0, hr0⟩, w0⟩ := ((opn_slice Tryd.underlying33 (by kernel_rfl) opn24) : Opn _ _ (Kd.slice 24 k24) _).get rfl hf0
  obtain ⟨rfl, rfl, rfl⟩ : A0 = z0 ∧ x0.length = y0 ∧ c0 = u0 := (fun (h_ : z0 = A0 ∧ y0 = x0.length ∧ u0 = c0) => ⟨h_.1.symm, h_.2.1.symm, h_.2.2.symm⟩) (by simpa [Value.cells] using hcs0)
  obtain ⟨x1, rfl, rfl, rfl, w1⟩ := open_int Tryd.underlying2 (hval 1 2 v1 rfl rfl) h1
  clear hA0 hval0 hsz0
  obtain ⟨k, hP⟩ := Pure.FnExactUndoVersion x0 x1 w0 w1
  refine (laws_FnExactUndoVersion.calls k A0 c0 x0 x1 true W hr0 hc0 hTab hP).mono fun e W' hh => ?_
  obtain ⟨rfl, bel0⟩ := hh
  have bel : Below W.heap.size W W' := bel0
  exact ⟨_, rfl, _, _, _, [], _, [], hW', trodAll_mk1 (shut_bool Tryd.underlying4 _), (trodAll_cons_mk (Below.trod laidOut (by kernel_rfl) (of_decide_eq_true (by kernel_rfl)) k0 bel lt0) (trodAll_cons_mk (shut_int Tryd.underlying2 w1) trodAll_mk0)), rfl, bel.frame _, fun h => by cases h⟩
theorem over : Rows.fnExactUndoVersionRow.holds Tryd.pinned (OpenSpec.ofChange Rows.fnExactUndoVersionSpec) :=
  OpenClaim.holds_of_wide 4 Tryd.f4 rfl rfl rfl rfl rfl rfl rfl ⟨rfl, rfl, rfl, rfl, rfl⟩ rfl rfl rfl rfl rfl (by kernel_rfl) Tryd.func4 (by kernel_rfl)
    (of_decide_eq_true (by kernel_rfl)) (by unfold Func.isWrapper; first | (rw [if_pos (by decide +kernel)]; kernel_rfl) | (rw [if_neg (by decide +kernel)]; exact ⟨rfl, rfl⟩))
    (fun os started H enc _ => lifted os started H enc)
theorem proved : Rows.FnExactUndoVersionSaid := over
#print axioms proved
end Go.Proofs.YthnigkbbmhnafaaDoor.fnExactUndoVersion
namespace Go.Proofs.YthnigkbbmhnafaaDoor
open Go
theorem fnExactUndoVersion_holds : Rows.FnExactUndoVersionCardSaid :=
  Claim7.holds_tied_plain_at .later [] [.data, .data, .data] true (true, "ae5bc1a37c2510425897401227ed49c25e90064ca23aa8ca2f5fa7eaa7002dd4") false fnExactUndoVersion.proved (fun _ h => by cases h) (by kernel_rfl) (fun _ h => by cases h) fnExactUndoVersion_row_tie rfl ⟨rfl, rfl⟩ (by kernel_rfl) rfl
    (fun f fn hf hfn => by
      obtain rfl : f = 4 := Option.some.inj ((show Tryd.prog.funcNamed "loop.example/g00956/laws.FnExactUndoVersion" = some 4 by kernel_rfl).symm.trans hf) |>.symm
      obtain rfl : fn = Tryd.f4 := (Option.some.inj (Tryd.func4.symm.trans hfn)).symm
      exact ⟨by kernel_rfl, fun j t ht => by
        rw [Tryd.params4] at ht
        have hm : t ∈ [33, 2] := by simpa using Array.mem_of_getElem? ht
        have hall : ([33, 2].all fun u => !Tryd.prog.wantsStandIn u) = true := by kernel_rfl
        exact (show Tryd.prog.wantsStandIn t = false by simpa using List.all_eq_true.1 hall t hm)⟩)
    (by kernel_rfl)
end Go.Proofs.YthnigkbbmhnafaaDoor
