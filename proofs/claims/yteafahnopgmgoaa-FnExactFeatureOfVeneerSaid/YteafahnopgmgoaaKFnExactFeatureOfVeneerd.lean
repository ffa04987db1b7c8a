/- The feature of a veneer, by the program as by the reference. This text holds the last walks, the plain law and the row. -/
import Derived.Test.YteafahnopgmgoaaRows
import Derived.WalkKit
import Derived.ProofKit
import Derived.OpenShut
import Derived.ShutString
import Derived.ChangeOld
import Derived.Below
import Derived.SizedLaws
import Derived.Carry
import Derived.Test.YteafahnopgmgoaaKFnExactFeatureOfVeneera
import Derived.Test.YteafahnopgmgoaaKFnExactFeatureOfVeneerc
import Derived.Test.YteafahnopgmgoaaKFnExactFeatureOfVeneerb
/- Own lemmas: one feature (valid, as the reference and as the program test it); the distance of two features. -/
namespace Go.Proofs.Yteafahnopgmgoaa.Q
open Go.RowKit Go.Proofs.YteafahnopgmgoaaW.PrintWords Go.Proofs.YteafahnopgmgoaaW.PrintLast Go.Proofs.YteafahnopgmgoaaW.PrintMore
def okB (x : Int) : Bool := decide (0 ≤ x) && decide (x ≤ 255)
theorem rd_nat (l : List Int) (i : Nat) (h : i < l.length) : rd l (i : Int) = l[i] := by unfold rd; simp [List.getD, h]
theorem one_loop (x : S28) (hl : x.f1.length < 4611686018427387904) : ∀ (d i : Nat), i + d = x.f1.length → ∀ k, d < k → spec_l26One.l0 k [x] i = some ((x.f1.drop i).all okB) := by
  intro d
  have hrd : rd_T28 [x] 0 = x := rfl
  induction d with
  | zero =>
    intro i h k hk
    obtain ⟨k, rfl⟩ : ∃ m, k = m + 1 := ⟨k - 1, by omega⟩
    simp only [spec_l26One.l0, hrd]
    rw [if_pos (by simp), if_neg (by omega), List.drop_of_length_le (by omega)]
    rfl
  | succ d ih =>
    intro i h k hk
    obtain ⟨k, rfl⟩ : ∃ m, k = m + 1 := ⟨k - 1, by omega⟩
    simp only [spec_l26One.l0, hrd]
    rw [if_pos (by simp), if_pos (by omega), if_pos (by omega), rd_nat _ _ (by omega), in_f]
    simp only [Option.bind_some]
    rw [w64 (by omega) (by omega), show (i : Int) + 1 = ((i + 1 : Nat) : Int) by omega, ih (i + 1) (by omega) k (by omega), List.drop_eq_getElem_cons (show i < x.f1.length by omega), List.all_cons, ite_and]
    rfl
theorem index_loop (l : List Int) (hl : l.length < 4611686018427387904) : ∀ (d i : Nat), i + d = l.length → ∃ r, decide (r ≥ 0) = !((l.drop i).all okB) ∧ ∀ k, d < k → slices_IndexFunc_int64_int64.l0 k l (l.length : Int) i = some r := by
  intro d
  induction d with
  | zero =>
    intro i h
    refine ⟨-1, by rw [List.drop_of_length_le (by omega)]; rfl, fun k hk => ?_⟩
    obtain ⟨k, rfl⟩ : ∃ m, k = m + 1 := ⟨k - 1, by omega⟩
    simp only [slices_IndexFunc_int64_int64.l0]
    rw [if_neg (by omega)]
  | succ d ih =>
    intro i h
    cases hc : okB l[i]
    · refine ⟨i, by rw [List.drop_eq_getElem_cons (show i < l.length by omega), List.all_cons, hc]; simp, fun k hk => ?_⟩
      obtain ⟨k, rfl⟩ : ∃ m, k = m + 1 := ⟨k - 1, by omega⟩
      simp only [slices_IndexFunc_int64_int64.l0, impl_ValidFeature_1.f]
      rw [if_pos (by omega), if_pos (by omega), if_pos (by omega), rd_nat _ _ (by omega), within_f]
      simp only [Option.bind_some]
      rw [show (decide (0 ≤ l[i]) && decide (l[i] ≤ 255)) = false from hc]
      simp
    · obtain ⟨r, hr, hk0⟩ := ih (i + 1) (by omega)
      refine ⟨r, by rw [List.drop_eq_getElem_cons (show i < l.length by omega), List.all_cons, hc, hr]; simp, fun k hk => ?_⟩
      obtain ⟨k, rfl⟩ : ∃ m, k = m + 1 := ⟨k - 1, by omega⟩
      simp only [slices_IndexFunc_int64_int64.l0, impl_ValidFeature_1.f]
      rw [if_pos (by omega), if_pos (by omega), if_pos (by omega), rd_nat _ _ (by omega), within_f]
      simp only [Option.bind_some]
      rw [show (decide (0 ≤ l[i]) && decide (l[i] ≤ 255)) = true from hc]
      simp only [Bool.not_true, Bool.false_eq_true, if_false]
      rw [w64 (by omega) (by omega), show (i : Int) + 1 = ((i + 1 : Nat) : Int) by omega, hk0 k (by omega)]
theorem valid_ev (a : ByteArray) (l : List Int) : ∃ b, (b = true → l.length = 6 ∧ l.all okB = true) ∧ ∀ k, 20 < k → spec_l26One.f k [(⟨a, l⟩ : S28)] = some b ∧ impl_ValidFeature.f k a l = some b := by
  obtain ⟨b, hb⟩ := name_ev a
  have hrd : rd_T28 [(⟨a, l⟩ : S28)] 0 = ⟨a, l⟩ := rfl
  cases b with
  | false =>
    refine ⟨false, fun h => (by cases h), fun k hk => ⟨?_, ?_⟩⟩
    · unfold spec_l26One.f
      rw [if_pos (by simp), hrd, name_same, hb k (by omega)]
      obtain ⟨k, rfl⟩ : ∃ m, k = m + 1 := ⟨k - 1, by omega⟩
      simp [spec_l26One.j0]
    · unfold impl_ValidFeature.f
      rw [hb k (by omega)]
      simp
  | true =>
    by_cases h6 : l.length = 6
    · obtain ⟨r, hr, hk0⟩ := index_loop l (by omega) 6 0 (by omega)
      rw [List.drop_zero] at hr
      refine ⟨l.all okB, fun h => ⟨h6, h⟩, fun k hk => ⟨?_, ?_⟩⟩
      · unfold spec_l26One.f
        rw [if_pos (by simp), hrd, name_same, hb k (by omega)]
        obtain ⟨k, rfl⟩ : ∃ m, k = m + 1 := ⟨k - 1, by omega⟩
        have := one_loop ⟨a, l⟩ (by simp only []; omega) 6 0 (by simp only []; omega) k (by omega)
        simp only [List.drop_zero] at this
        simp [spec_l26One.j0, h6]
        simpa using this
      · unfold impl_ValidFeature.f slices_ContainsFunc_int64_int64.f slices_IndexFunc_int64_int64.f
        rw [hb k (by omega)]
        have := hk0 k (by omega)
        simp only [Option.bind_some, if_true]
        rw [if_pos (by omega), show ((0 : Int)) = ((0 : Nat) : Int) from rfl, this]
        simp only [Option.bind_some]
        rw [show decide (r ≥ ((0 : Nat) : Int)) = decide (r ≥ 0) from rfl, hr]
        simp
    · refine ⟨false, fun h => (by cases h), fun k hk => ⟨?_, ?_⟩⟩
      · unfold spec_l26One.f
        rw [if_pos (by simp), hrd, name_same, hb k (by omega)]
        obtain ⟨k, rfl⟩ : ∃ m, k = m + 1 := ⟨k - 1, by omega⟩
        simp [spec_l26One.j0, show ¬ (l.length : Int) = 6 by omega]
      · unfold impl_ValidFeature.f
        rw [hb k (by omega)]
        simp only [Option.bind_some, if_true]
        rw [if_neg (by omega)]
theorem away_ev (a : ByteArray) (l : List Int) (b : ByteArray) (m : List Int) (hl : l.length = 6) (hm : m.length = 6) (h1 : l.all okB = true) (h2 : m.all okB = true) : ∃ v, ∀ k, 10 < k → spec_l26Away.f k [(⟨a, l⟩ : S28)] [(⟨b, m⟩ : S28)] = some v ∧ impl_featureDistance.f k a l b m = some v := by
  have hr1 : rd_T28 [(⟨a, l⟩ : S28)] 0 = ⟨a, l⟩ := rfl
  have hr2 : rd_T28 [(⟨b, m⟩ : S28)] 0 = ⟨b, m⟩ := rfl
  have go : ∀ (d i : Nat) (c : Int), i + d = 6 → ∃ v, ∀ k, d < k → spec_l26Away.l0 k [(⟨a, l⟩ : S28)] [(⟨b, m⟩ : S28)] c i = some v ∧ impl_featureDistance.l0 k c l (l.length : Int) i b m = some v := by
    intro d
    induction d with
    | zero =>
      intro i c h
      refine ⟨c, fun k hk => ?_⟩
      obtain ⟨k, rfl⟩ : ∃ m, k = m + 1 := ⟨k - 1, by omega⟩
      simp only [spec_l26Away.l0, impl_featureDistance.l0]
      rw [if_neg (by omega), if_neg (by omega)]
      exact ⟨rfl, rfl⟩
    | succ d ih =>
      intro i c h
      have g1 : 0 ≤ l[i] ∧ l[i] ≤ 255 := by simpa [okB] using (List.all_eq_true.mp h1) l[i] (List.getElem_mem _)
      have g2 : 0 ≤ m[i] ∧ m[i] ≤ 255 := by simpa [okB] using (List.all_eq_true.mp h2) m[i] (List.getElem_mem _)
      have key : spec_l00Max.f (wrap64 (l[i] - m[i])) (wrap64 (m[i] - l[i])) = impl_absolute.f (wrap64 (l[i] - m[i])) := by
        unfold impl_absolute.f spec_l00Max.f
        rw [w64 (x := l[i] - m[i]) (by omega) (by omega), w64 (x := m[i] - l[i]) (by omega) (by omega), w64 (by omega) (by omega)]
        unfold mx
        split <;> split <;> first | rfl | (congr 1; omega) | omega
      obtain ⟨t, ht⟩ : ∃ t, impl_absolute.f (wrap64 (l[i] - m[i])) = some t := ⟨_, rfl⟩
      obtain ⟨v, hv⟩ := ih (i + 1) (wrap64 (c + t)) (by omega)
      refine ⟨v, fun k hk => ?_⟩
      obtain ⟨k, rfl⟩ : ∃ m, k = m + 1 := ⟨k - 1, by omega⟩
      obtain ⟨e1, e2⟩ := hv k (by omega)
      simp only [spec_l26Away.l0, impl_featureDistance.l0, hr1, hr2]
      constructor
      · rw [if_pos (by omega), if_pos (by simp), if_pos (by omega), if_pos (by omega), if_pos (by simp), if_pos (by omega), rd_nat _ _ (by omega), rd_nat _ _ (by omega), key, ht]
        simp only [Option.bind_some]
        rw [w64 (x := (i : Int) + 1) (by omega) (by omega), show (i : Int) + 1 = ((i + 1 : Nat) : Int) by omega, e1]
      · rw [if_pos (by omega), if_pos (by omega), if_pos (by omega), if_pos (by omega), rd_nat _ _ (by omega), rd_nat _ _ (by omega), ht]
        simp only [Option.bind_some]
        rw [w64 (x := (i : Int) + 1) (by omega) (by omega), show (i : Int) + 1 = ((i + 1 : Nat) : Int) by omega, e2]
  obtain ⟨v, hv⟩ := go 6 0 0 (by omega)
  exact ⟨v, fun k hk => hv k (by omega)⟩
theorem toInt64S_ev (l : List Int) (hl : l.length ≤ 35184372088832) : ∀ k, l.length < k → laws_toInt64S.f k l = some l := by
  have go : ∀ (d k : Nat) (xs : List Int) (i : Nat), i + d = l.length → d < k → xs.length = l.length → xs.take i = l.take i → laws_toInt64S.l0 k l xs i = some l := by
    intro d
    induction d with
    | zero =>
      intro k xs i h1 hk h2 h3
      obtain ⟨k, rfl⟩ : ∃ m, k = m + 1 := ⟨k - 1, by omega⟩
      simp only [laws_toInt64S.l0]
      rw [if_neg (by omega)]
      rw [List.take_of_length_le (by omega), List.take_of_length_le (by omega)] at h3
      rw [h3]
    | succ d ih =>
      intro k xs i h1 hk h2 h3
      obtain ⟨k, rfl⟩ : ∃ m, k = m + 1 := ⟨k - 1, by omega⟩
      simp only [laws_toInt64S.l0]
      rw [if_pos (by omega), if_pos (by omega), if_pos (by omega), w64 (by omega) (by omega), Int.toNat_natCast, show (i : Int) + 1 = ((i + 1 : Nat) : Int) by omega]
      apply ih k _ (i + 1) (by omega) (by omega) (by rw [List.length_set]; exact h2)
      rw [set_drop_take _ _ _ (by omega), h3, rd_nat _ _ (by omega), List.take_succ_eq_append_getElem (by omega)]
  intro k hk
  unfold laws_toInt64S.f
  rw [if_pos (by omega), if_pos (by simpa using hl)]
  exact go l.length k _ 0 (by omega) hk (by simp) (by simp)
theorem szInt_facts {l : List Int} {c z : Int} (hl : (l.length : Int) ≤ 9223372036854775807) (hc : c ≤ 1048576) (h : laws_szInt64S.f l c = some z) (hz : ¬ z < 0) (h0 : 0 ≤ c) : (l.length : Int) ≤ c ∧ z = c - l.length := by
  unfold laws_szInt64S.f at h
  rw [w64 (by omega) (by omega)] at h
  by_cases hn : c - (l.length : Int) < 0
  · rw [if_pos hn] at h; injection h with h; omega
  · rw [if_neg hn] at h; injection h with h; omega
theorem szFeature_facts {a : ByteArray} {l : List Int} {c z : Int} (ha : (a.size : Int) ≤ 9223372036854775807) (hl : (l.length : Int) ≤ 9223372036854775807) (h0 : 0 ≤ c) (hc : c ≤ 1048576) (h : laws_szFeature.f a l c = some z) (hz : ¬ z < 0) : (a.size : Int) + l.length ≤ c ∧ z = c - a.size - l.length := by
  unfold laws_szFeature.f at h
  rw [w64 (by omega) (by omega)] at h
  by_cases hn : c - (a.size : Int) < 0
  · rw [if_pos hn] at h; injection h with h; omega
  · rw [if_neg hn] at h
    obtain ⟨t, ht⟩ : ∃ t, laws_szInt64S.f l (c - a.size) = some t := by unfold laws_szInt64S.f; split <;> exact ⟨_, rfl⟩
    rw [ht] at h
    simp only [Option.bind_some] at h
    by_cases hm : t < 0
    · rw [if_pos hm] at h; injection h with h; omega
    · rw [if_neg hm] at h; injection h with h
      have := szInt_facts hl (by omega) ht hm (by omega)
      omega
theorem szFeature_ev (a : ByteArray) (l : List Int) (c : Int) : ∃ z, laws_szFeature.f a l c = some z := by
  unfold laws_szFeature.f laws_szInt64S.f
  split
  · exact ⟨_, rfl⟩
  · split
    · simp
    · simp only [Option.bind_some]; split <;> exact ⟨_, rfl⟩
theorem toFeature_ev (a : ByteArray) (l : List Int) (hl : l.length ≤ 35184372088832) : ∀ k, l.length < k → laws_toFeature.f k a l = some (a, l) := by
  intro k hk; unfold laws_toFeature.f; rw [toInt64S_ev l hl k hk]; rfl
theorem eqFeature_ev (a : ByteArray) (l : List Int) (hl : l.length ≤ 35184372088832) : ∀ k, l.length < k → laws_eqFeature.f k a l a l = some true := by
  intro k hk; unfold laws_eqFeature.f; rw [if_pos rfl, eqInt64S_ev l (by omega) k hk]; rfl
theorem law_FeatureDistance : laws_FnExactFeatureDistance.Pure := by
  intro x y hx hy
  have hM : maxLen = 9223372036854775807 := by decide
  obtain ⟨z, hz⟩ := szFeature_ev x.f0 x.f1 1048576
  obtain ⟨z2, hz2⟩ := szFeature_ev y.f0 y.f1 z
  by_cases c1 : z < 0
  · refine ⟨0, ?_⟩
    unfold laws_FnExactFeatureDistance.f
    rw [hz]; simp only [Option.bind_some]; rw [if_pos c1]
  by_cases c2 : z2 < 0
  · refine ⟨0, ?_⟩
    unfold laws_FnExactFeatureDistance.f
    rw [hz]; simp only [Option.bind_some]; rw [if_neg c1, hz2]; simp only [Option.bind_some]; rw [if_pos c2]
  have hx1 := hx.1
  have hx2 := hx.2.1
  have hy1 := hy.1
  have hy2 := hy.2.1
  rw [hM] at hx1 hx2 hy1 hy2
  have s1 := szFeature_facts (by omega) (by omega) (by omega) (by omega) hz c1
  have s2 := szFeature_facts (by omega) (by omega) (by omega) (by omega) hz2 c2
  refine ⟨2000000, ?_⟩
  unfold laws_FnExactFeatureDistance.f
  rw [hz]; simp only [Option.bind_some]; rw [if_neg c1, hz2]; simp only [Option.bind_some]; rw [if_neg c2, toFeature_ev _ _ (by omega) _ (by omega)]
  simp only [Option.bind_some]
  rw [toFeature_ev _ _ (by omega) _ (by omega)]
  simp only [Option.bind_some]
  obtain ⟨v, hv1, hv2⟩ : ∃ v, spec_FeatureDistance.f 2000000 x.f0 x.f1 y.f0 y.f1 = some v ∧ impl_FeatureDistance.f 2000000 x.f0 x.f1 y.f0 y.f1 = some v := by
    unfold spec_FeatureDistance.f impl_FeatureDistance.f
    obtain ⟨b, hb, hk⟩ := valid_ev x.f0 x.f1
    obtain ⟨c, hc, hk2⟩ := valid_ev y.f0 y.f1
    obtain ⟨e1, e2⟩ := hk 2000000 (by omega)
    obtain ⟨e3, e4⟩ := hk2 2000000 (by omega)
    rw [e1, e2, e3, e4]
    cases b with
    | false => exact ⟨(0, 1), by simp, by simp⟩
    | true =>
      cases c with
      | false => exact ⟨(0, 1), by simp, by simp⟩
      | true =>
        obtain ⟨v, hv⟩ := away_ev x.f0 x.f1 y.f0 y.f1 (hb rfl).1 (hc rfl).1 (hb rfl).2 (hc rfl).2
        obtain ⟨e5, e6⟩ := hv 2000000 (by omega)
        rw [e5, e6]
        exact ⟨(v, 0), by simp, by simp⟩
  rw [hv1, hv2]
  simp only [Option.bind_some, if_true, bne_self_eq_false]
  simp only [laws_FnExactFeatureDistance.j0, Bool.false_eq_true, if_false]
  rw [toFeature_ev _ _ (by omega) _ (by omega), toFeature_ev _ _ (by omega) _ (by omega)]
  simp only [Option.bind_some]
  rw [eqFeature_ev _ _ (by omega) _ (by omega), eqFeature_ev _ _ (by omega) _ (by omega)]
  simp
end Go.Proofs.Yteafahnopgmgoaa.Q
/- Own lemmas: the species of veneers, valid veneers (the reference's and the program's answers, as plain values). -/
namespace Go.Proofs.Yteafahnopgmgoaa.Q
open Go.RowKit Go.Proofs.YteafahnopgmgoaaW.PrintWords Go.Proofs.YteafahnopgmgoaaW.PrintLast Go.Proofs.YteafahnopgmgoaaW.PrintMore
/-- The number of a species among the ten, or -1. -/
def spi (l : List UInt8) : Int := if l = [97, 115, 104] then 0 else if l = [98, 101, 101, 99, 104] then 1 else if l = [98, 105, 114, 99, 104] then 2 else if l = [99, 104, 101, 114, 114, 121] then 3 else if l = [101, 98, 111, 110, 121] then 4 else if l = [104, 111, 108, 108, 121] then 5 else if l = [109, 97, 112, 108, 101] then 6 else if l = [111, 97, 107] then 7 else if l = [114, 111, 115, 101, 119, 111, 111, 100] then 8 else if l = [119, 97, 108, 110, 117, 116] then 9 else -1
def shades : List Int := [20, 35, 15, 50, 95, 5, 10, 40, 80, 70]
def prices : List Int := [30, 25, 28, 45, 160, 60, 32, 35, 120, 70]
theorem sp_cases (l : List UInt8) : (l = [97, 115, 104]) ∨ (l = [98, 101, 101, 99, 104]) ∨ (l = [98, 105, 114, 99, 104]) ∨ (l = [99, 104, 101, 114, 114, 121]) ∨ (l = [101, 98, 111, 110, 121]) ∨ (l = [104, 111, 108, 108, 121]) ∨ (l = [109, 97, 112, 108, 101]) ∨ (l = [111, 97, 107]) ∨ (l = [114, 111, 115, 101, 119, 111, 111, 100]) ∨ (l = [119, 97, 108, 110, 117, 116]) ∨ (¬ l = [97, 115, 104] ∧ ¬ l = [98, 101, 101, 99, 104] ∧ ¬ l = [98, 105, 114, 99, 104] ∧ ¬ l = [99, 104, 101, 114, 114, 121] ∧ ¬ l = [101, 98, 111, 110, 121] ∧ ¬ l = [104, 111, 108, 108, 121] ∧ ¬ l = [109, 97, 112, 108, 101] ∧ ¬ l = [111, 97, 107] ∧ ¬ l = [114, 111, 115, 101, 119, 111, 111, 100] ∧ ¬ l = [119, 97, 108, 110, 117, 116]) := by
  by_cases h0 : l = [97, 115, 104]
  · exact .inl h0
  by_cases h1 : l = [98, 101, 101, 99, 104]
  · exact .inr ((.inl h1))
  by_cases h2 : l = [98, 105, 114, 99, 104]
  · exact .inr (.inr ((.inl h2)))
  by_cases h3 : l = [99, 104, 101, 114, 114, 121]
  · exact .inr (.inr (.inr ((.inl h3))))
  by_cases h4 : l = [101, 98, 111, 110, 121]
  · exact .inr (.inr (.inr (.inr ((.inl h4)))))
  by_cases h5 : l = [104, 111, 108, 108, 121]
  · exact .inr (.inr (.inr (.inr (.inr ((.inl h5))))))
  by_cases h6 : l = [109, 97, 112, 108, 101]
  · exact .inr (.inr (.inr (.inr (.inr (.inr ((.inl h6)))))))
  by_cases h7 : l = [111, 97, 107]
  · exact .inr (.inr (.inr (.inr (.inr (.inr (.inr ((.inl h7))))))))
  by_cases h8 : l = [114, 111, 115, 101, 119, 111, 111, 100]
  · exact .inr (.inr (.inr (.inr (.inr (.inr (.inr (.inr ((.inl h8)))))))))
  by_cases h9 : l = [119, 97, 108, 110, 117, 116]
  · exact .inr (.inr (.inr (.inr (.inr (.inr (.inr (.inr (.inr ((.inl h9))))))))))
  exact .inr (.inr (.inr (.inr (.inr (.inr (.inr (.inr (.inr (.inr (⟨h0, h1, h2, h3, h4, h5, h6, h7, h8, h9⟩))))))))))
theorem l07Find_f (a : ByteArray) (k : Nat) (hk : 12 ≤ k) : spec_l07Find.f k a = some (spi a.toList) := by
  obtain ⟨k, rfl⟩ : ∃ m, k = m + 12 := ⟨k - 12, by omega⟩
  unfold spec_l07Find.f spec_l07Names.f spi
  simp only [Option.bind_some, spec_l07Find.l0, wrap64, rdOf]
  simp (decide := true)
  generalize a.toList = l
  simp only [eq_comm (b := l)]
  rcases sp_cases l with h | h | h | h | h | h | h | h | h | h | h
  all_goals first | (subst h; decide) | (obtain ⟨h0, h1, h2, h3, h4, h5, h6, h7, h8, h9⟩ := h; simp only [h0, h1, h2, h3, h4, h5, h6, h7, h8, h9, if_false])
theorem SpeciesData_f (a : ByteArray) (k : Nat) (hk : 12 ≤ k) : spec_SpeciesData.f k a = impl_SpeciesData.f a := by
  unfold spec_SpeciesData.f impl_SpeciesData.f
  rw [l07Find_f a k hk]
  unfold spi spec_l07Table.f
  generalize a.toList = l
  rcases sp_cases l with h | h | h | h | h | h | h | h | h | h | h
  all_goals first | (subst h; decide) | (obtain ⟨h0, h1, h2, h3, h4, h5, h6, h7, h8, h9⟩ := h; simp only [h0, h1, h2, h3, h4, h5, h6, h7, h8, h9, if_false]; decide)
def vVen (l : List UInt8) (sh gr : Int) : Bool := decide (0 ≤ spi l) && ((decide (0 ≤ sh) && decide (sh ≤ 100)) && ((decide (rd shades (spi l) - 15 ≤ sh) && decide (sh ≤ rd shades (spi l) + 15)) && (decide (0 ≤ gr) && decide (gr ≤ 179))))
theorem spi_range (l : List UInt8) : -1 ≤ spi l ∧ spi l ≤ 9 := by
  rcases sp_cases l with h | h | h | h | h | h | h | h | h | h | h
  all_goals first | (subst h; decide) | (obtain ⟨h0, h1, h2, h3, h4, h5, h6, h7, h8, h9⟩ := h; unfold spi; simp only [h0, h1, h2, h3, h4, h5, h6, h7, h8, h9, if_false]; decide)
theorem shade_of (i : Int) (h0 : 0 ≤ i) (h1 : i ≤ 9) : ∃ t, spec_l07Table.f = some t ∧ i < t.length ∧ 0 < (rd_L2 t i).length ∧ rd (rd_L2 t i) 0 = rd shades i ∧ 0 ≤ rd shades i ∧ rd shades i ≤ 100 := by
  refine ⟨_, rfl, ?_⟩
  obtain ⟨n, rfl⟩ := Int.eq_ofNat_of_zero_le h0
  have hn : n ≤ 9 := by omega
  match n, hn with
  | 0, _ => decide
  | 1, _ => decide
  | 2, _ => decide
  | 3, _ => decide
  | 4, _ => decide
  | 5, _ => decide
  | 6, _ => decide
  | 7, _ => decide
  | 8, _ => decide
  | 9, _ => decide
theorem iShade_f (a : ByteArray) : impl_speciesShade.f a = some (if 0 ≤ spi a.toList then (rd shades (spi a.toList), true) else (0, false)) := by
  unfold impl_speciesShade.f impl_SpeciesData.f spi
  generalize a.toList = l
  rcases sp_cases l with h | h | h | h | h | h | h | h | h | h | h
  all_goals first | (subst h; decide) | (obtain ⟨h0, h1, h2, h3, h4, h5, h6, h7, h8, h9⟩ := h; simp only [h0, h1, h2, h3, h4, h5, h6, h7, h8, h9, if_false]; decide)
theorem l07Ok_f (x : S44) (k : Nat) (hk : 12 ≤ k) : spec_l07Ok.f k [x] = some (vVen x.f0.toList x.f1 x.f2) := by
  obtain ⟨k, rfl⟩ : ∃ m, k = m + 1 := ⟨k - 1, by omega⟩
  have hrd : rd_T44 [x] 0 = x := rfl
  unfold spec_l07Ok.f vVen
  rw [if_pos (by simp), hrd, l07Find_f _ _ hk]
  simp only [Option.bind_some]
  have hr := spi_range x.f0.toList
  by_cases h : spi x.f0.toList < 0
  · rw [if_pos h]
    simp only [spec_l07Ok.j0, if_true]
    rw [show decide (0 ≤ spi x.f0.toList) = false from decide_eq_false (by omega)]
    rfl
  · rw [if_neg h, in_f, show decide (0 ≤ spi x.f0.toList) = true from decide_eq_true (by omega)]
    obtain ⟨t, ht, h1, h2, h3, h4, h5⟩ := shade_of (spi x.f0.toList) (by omega) (by omega)
    simp only [Option.bind_some, spec_l07Ok.j0]
    cases hs : (decide (0 ≤ x.f1) && decide (x.f1 ≤ 100))
    · simp
    · rw [if_neg (by simp), ht]
      simp only [Option.bind_some]
      rw [if_pos (by omega), if_pos h1, if_pos (by omega), if_pos (by simp), hrd, h3, in_f, w64 (by omega) (by omega), w64 (by omega) (by omega)]
      simp only [Option.bind_some, spec_l07Grain.f, in_f]
      rw [ite_and]
      simp
theorem iValidVeneer_f (a : ByteArray) (sh gr : Int) : impl_ValidVeneer.f a sh gr = some (vVen a.toList sh gr) := by
  unfold impl_ValidVeneer.f vVen
  rw [iShade_f]
  simp only [Option.bind_some]
  have hr := spi_range a.toList
  by_cases h : 0 ≤ spi a.toList
  · rw [if_pos h]
    obtain ⟨t, ht, h1, h2, h3, h4, h5⟩ := shade_of (spi a.toList) h (by omega)
    simp only [if_true, within_f, Option.bind_some]
    rw [show decide (0 ≤ spi a.toList) = true from decide_eq_true h]
    cases hs : (decide (0 ≤ sh) && decide (sh ≤ 100))
    · simp
    · have hs' : 0 ≤ sh ∧ sh ≤ 100 := by simpa using hs
      rw [w64 (by omega) (by omega)]
      simp only [if_true, ite_and, Bool.true_and]
      congr 2
      rw [Bool.eq_iff_iff]
      simp only [Bool.and_eq_true, decide_eq_true_eq]
      omega
  · rw [if_neg h, show decide (0 ≤ spi a.toList) = false from decide_eq_false h]
    simp
end Go.Proofs.Yteafahnopgmgoaa.Q
/- Own lemmas: the feature of a veneer, by the reference and by the program. -/
namespace Go.Proofs.Yteafahnopgmgoaa.Q
open Go.RowKit Go.Proofs.YteafahnopgmgoaaW.PrintWords Go.Proofs.YteafahnopgmgoaaW.PrintLast Go.Proofs.YteafahnopgmgoaaW.PrintMore
theorem index_species (a : ByteArray) (k : Nat) (hk : 12 ≤ k) : (impl_SpeciesNames.f).bind (fun t => slices_Index_string_string.f k t a) = some (spi a.toList) := by
  obtain ⟨k, rfl⟩ : ∃ m, k = m + 12 := ⟨k - 12, by omega⟩
  unfold slices_Index_string_string.f impl_SpeciesNames.f spi
  simp only [Option.bind_some, slices_Index_string_string.l0, wrap64, rdOf]
  simp (decide := true)
  generalize a.toList = l
  rcases sp_cases l with h | h | h | h | h | h | h | h | h | h | h
  all_goals first | (subst h; decide) | (obtain ⟨h0, h1, h2, h3, h4, h5, h6, h7, h8, h9⟩ := h; simp only [h0, h1, h2, h3, h4, h5, h6, h7, h8, h9, if_false])
theorem min_f (a b : Int) : spec_l00Min.f a b = some (mn a b) := by
  unfold spec_l00Min.f mn
  split <;> split <;> first | rfl | (congr 1; omega) | omega
theorem data_ev (a : ByteArray) : ∃ t, impl_SpeciesData.f a = some t := by
  unfold impl_SpeciesData.f
  generalize a.toList = l
  rcases sp_cases l with h | h | h | h | h | h | h | h | h | h | h
  all_goals first | (subst h; exact ⟨_, rfl⟩) | (obtain ⟨h0, h1, h2, h3, h4, h5, h6, h7, h8, h9⟩ := h; simp only [h0, h1, h2, h3, h4, h5, h6, h7, h8, h9, if_false]; exact ⟨_, rfl⟩)
theorem ofVeneer_ev (a v : ByteArray) (s g : Int) : ∃ (n : ByteArray) (L : List Int) (c : Int), L.length ≤ 6 ∧ ∀ k, 30 < k → spec_FeatureOfVeneer.f k a v s g = some (n, L, c) ∧ impl_FeatureOfVeneer.f k a v s g = some (n, L, c) := by
  obtain ⟨b, hb⟩ := name_ev a
  have bad : ∀ k, 30 < k → spec_FeatureOfVeneer.j0 k a true v s g = some ((⟨#[]⟩ : ByteArray), ([] : List Int), 1) ∧ impl_FeatureOfVeneer.j0 k a true v s g = some ((⟨#[]⟩ : ByteArray), ([] : List Int), 1) := by
    intro k hk
    obtain ⟨k, rfl⟩ : ∃ m, k = m + 1 := ⟨k - 1, by omega⟩
    simp [spec_FeatureOfVeneer.j0, impl_FeatureOfVeneer.j0]
  unfold spec_FeatureOfVeneer.f impl_FeatureOfVeneer.f
  cases b with
  | false =>
    refine ⟨(⟨#[]⟩ : ByteArray), ([] : List Int), 1, by decide, fun k hk => ?_⟩
    rw [name_same, hb k (by omega)]
    simp only [Option.bind_some, Bool.false_eq_true, if_false]
    exact bad k hk
  | true =>
    cases hv : vVen v.toList s g with
    | false =>
      refine ⟨(⟨#[]⟩ : ByteArray), ([] : List Int), 1, by decide, fun k hk => ?_⟩
      rw [name_same, hb k (by omega), l07Ok_f _ k (by omega), iValidVeneer_f]
      simp only [Option.bind_some, if_true, hv, Bool.not_false]
      exact bad k hk
    | true =>
      obtain ⟨t, ht⟩ := data_ev v
      refine ⟨a, [wrap64 (2 * s), g, t.2.1, wrap64 (Int.tdiv t.2.2.1 2), wrap64 (20 * spi v.toList), mn g (wrap64 (180 - g))], 0, by simp, fun k hk => ?_⟩
      rw [name_same, hb k (by omega), l07Ok_f _ k (by omega), iValidVeneer_f]
      simp only [Option.bind_some, if_true, hv, Bool.not_true]
      obtain ⟨k, rfl⟩ : ∃ m, k = m + 1 := ⟨k - 1, by omega⟩
      simp only [spec_FeatureOfVeneer.j0, impl_FeatureOfVeneer.j0, Bool.false_eq_true, if_false]
      rw [SpeciesData_f v k (by omega), ht, l07Find_f v k (by omega), min_f]
      have hi := index_species v k (by omega)
      obtain ⟨nm, hnm⟩ : ∃ nm, impl_SpeciesNames.f = some nm := ⟨_, rfl⟩
      rw [hnm] at hi
      simp only [Option.bind_some] at hi
      rw [hnm]
      simp only [Option.bind_some]
      rw [hi]
      simp
theorem law_FeatureOfVeneer : laws_FnExactFeatureOfVeneer.Pure := by
  intro x y _ _
  refine ⟨2000000, ?_⟩
  unfold laws_FnExactFeatureOfVeneer.f
  by_cases c1 : (x.size : Int) > 1048576
  · rw [if_pos c1]
  rw [if_neg c1]
  obtain ⟨z, hz⟩ : ∃ z, laws_szVeneer.f y.f0 y.f1 y.f2 1048576 = some z := by unfold laws_szVeneer.f; split <;> exact ⟨_, rfl⟩
  rw [hz]
  simp only [Option.bind_some]
  by_cases c2 : z < 0
  · rw [if_pos c2]
  rw [if_neg c2]
  obtain ⟨n, L, c, hL, hk⟩ := ofVeneer_ev x y.f0 y.f1 y.f2
  have e1 : ∀ k, 30 < k → spec_FeatureOfVeneer.f k x y.f0 y.f1 y.f2 = some (n, L, c) := fun k h => (hk k h).1
  have e2 : ∀ k, 30 < k → impl_FeatureOfVeneer.f k x y.f0 y.f1 y.f2 = some (n, L, c) := fun k h => (hk k h).2
  have q1 : ∀ k, 30 < k → laws_eqFeature.f k n L n L = some true := fun k h => eqFeature_ev n L (by omega) k (by omega)
  have q2 : ∀ k, 30 < k → laws_markFeature.f k n L 1 = some (1 + (L.length : Int), ups 1 L.length) := fun k h => by
    unfold laws_markFeature.f; rw [markInt64S_ev L 1 (by omega) (by omega) k (by omega)]; rfl
  have q3 : ∀ k, 30 < k → laws_heldFeature.f k n (ups 1 L.length) 1 = some (1 + (L.length : Int)) := fun k h => by
    unfold laws_heldFeature.f; rw [heldInt64S_ev 1 L.length (by omega) (by omega) k (by omega)]
    simp only [Option.bind_some]
    rw [if_neg (by omega)]
  simp only [laws_toVeneer.f, Option.bind_some]
  rw [e1 _ (by omega), e2 _ (by omega)]
  simp only [Option.bind_some]
  rw [q1 _ (by omega)]
  simp only [Option.bind_some, if_true, bne_self_eq_false]
  simp only [laws_FnExactFeatureOfVeneer.j0, Bool.false_eq_true, if_false]
  rw [q2 _ (by omega)]
  simp only [Option.bind_some]
  rw [q3 _ (by omega)]
  simp only [Option.bind_some, if_true]
  rw [if_neg (by omega)]
  simp only [laws_toVeneer.f, Option.bind_some]
  rw [e2 _ (by omega)]
  simp only [Option.bind_some]
  rw [q1 _ (by omega)]
  simp only [Option.bind_some, if_true, bne_self_eq_false]
  simp only [laws_FnExactFeatureOfVeneer.j1, Bool.false_eq_true, if_false]
  rw [q3 _ (by omega)]
  simp only [Option.bind_some, if_true]
  rw [if_neg (by omega)]
end Go.Proofs.Yteafahnopgmgoaa.Q
/- The feature of a veneer, by the program as by the reference. -/
namespace Go.Proofs.Yteafahnopgmgoaa.Pure
open Go.Proofs.Yteafahnopgmgoaa.Q
theorem FnExactFeatureOfVeneer : laws_FnExactFeatureOfVeneer.Pure := law_FeatureOfVeneer
end Go.Proofs.Yteafahnopgmgoaa.Pure
namespace Go.Proofs.Yteafahnopgmgoaa.fnExactFeatureOfVeneer
open Go.ChangeShapes Go.WideShapes Go.ChangeAt Go.RowKit Go.Proofs.Yteafahnopgmgoaa.OPN Go.Proofs.Yteafahnopgmgoaa.Q Go.Proofs.YteafahnopgmgoaaW.PrintWords
open Go.ChangeMaps (open_string shut_string)
set_option linter.unusedVariables false
theorem own : ownKnob Try.prog.godebug = none := by kernel_rfl
theorem laidOut : laidOutB Try.prog = true := by kernel_rfl
set_option maxRecDepth 100000 in
theorem lifted (os : Os) (started : os.Started) (H : Type) (enc : TypeId × Value → H) :
    ReturnsInHanded {} Try.checked os 5 .any (Rows.fnExactFeatureOfVeneerSpec.pre6 enc Try.prog Try.f5 Rows.fnExactFeatureOfVeneerRow.domain false) (Rows.fnExactFeatureOfVeneerSpec.post enc Try.prog Try.f5 false true false false) := by
  refine returnsInHanded_of_change_sized (C := Try.checked) own started (by kernel_rfl) Try.func5
    (ChangeSpec.witness6 (enc := enc) (C := Try.checked) false ⟨#[], #[.string ByteArray.empty, .agg #[.string ByteArray.empty, .int .i64 0, .int .i64 0]], []⟩ 8 (by kernel_rfl) (by kernel_rfl) (by kernel_rfl) (by kernel_rfl)) ?_
  intro W base args ds gs before hval0 hW hcnd hsz0 _
  have hval : ∀ (j : Nat) t v, Try.f5.params[j]? = some t → args[j]? = some v → Value.okWide Try.prog W .any base t v := hval0
  have hW' := hW
  obtain ⟨p, q, hA0, hV, rfl, hfz, hnd⟩ := hW
  have hA : DataW.TrodAll enc Try.prog W 0 (fun _ => true) true Try.f5.params.toList args.toList ds p := hA0
  rw [Try.params5] at hA hval
  obtain ⟨v0, vs0, d0, ds0, p0, q0, hargs, rfl, rfl, h0, r0⟩ := trodAll_cons hA
  obtain ⟨v1, vs1, d1, ds1, p1, q1, rfl, rfl, rfl, h1, r1⟩ := trodAll_cons r0
  obtain ⟨rfl, rfl, rfl⟩ := trodAll_nil r1
  obtain rfl : args = #[v0, v1] := by cases args; simp_all
  obtain ⟨rfl, rfl⟩ := trodVars_none hV
  obtain ⟨x0, rfl, rfl, rfl, w0⟩ := open_string Try.underlying9 (hval 0 9 v0 rfl rfl) h0
  have lt1 : ∀ x ∈ p1, x.block < W.heap.size := by obtain ⟨m, hm⟩ := h1; exact DataW.trod_lt m _ _ _ hm
  have k1 := h1
  obtain ⟨cs1, rfl, hs1⟩ := okWide_struct Try.underlying40 (hval 1 40 v1 rfl rfl)
  obtain ⟨fu1, hf1⟩ := h1
  obtain ⟨x1, hK1, w1⟩ := opn40.get (by rw [← opn40.size, ← hs1]; simp [Value.cells]) hf1
  have hcs1 := k40_open hK1
  obtain rfl : cs1 = #[.string x1.f0, .int .i64 x1.f1, .int .i64 x1.f2] := by apply Array.ext'; exact hcs1
  clear hA0 hval0 hsz0
  obtain ⟨k, hP⟩ := Pure.FnExactFeatureOfVeneer x0 x1 w0 w1
  refine (laws_FnExactFeatureOfVeneer.calls k x0 x1.f0 x1.f1 x1.f2 true W hP).mono fun e W' hh => ?_
  obtain ⟨rfl, bel0⟩ := hh
  have bel : Below W.heap.size W W' := bel0
  exact ⟨_, rfl, _, _, _, [], _, [], hW', trodAll_mk1 (shut_bool Try.underlying4 _), (trodAll_cons_mk (shut_string Try.underlying9 w0) (trodAll_cons_mk (Below.trod laidOut (by kernel_rfl) (of_decide_eq_true (by kernel_rfl)) k1 bel lt1) trodAll_mk0)), rfl, bel.frame _, fun h => by cases h⟩
theorem over : Rows.fnExactFeatureOfVeneerRow.holds Try.pinned (OpenSpec.ofChange Rows.fnExactFeatureOfVeneerSpec) :=
  OpenClaim.holds_of_wide 5 Try.f5 rfl rfl rfl rfl rfl rfl rfl ⟨rfl, rfl, rfl, rfl, rfl⟩ rfl rfl rfl rfl rfl (by kernel_rfl) Try.func5 (by kernel_rfl)
    (of_decide_eq_true (by kernel_rfl)) (by unfold Func.isWrapper; first | (rw [if_pos (by decide +kernel)]; kernel_rfl) | (rw [if_neg (by decide +kernel)]; exact ⟨rfl, rfl⟩))
    (fun os started H enc _ => lifted os started H enc)
theorem proved : Rows.FnExactFeatureOfVeneerSaid := over
#print axioms proved
end Go.Proofs.Yteafahnopgmgoaa.fnExactFeatureOfVeneer
namespace Go.Proofs.Yteafahnopgmgoaa
/-- The row, under a short name, for the claim. -/
theorem fnExactFeatureOfVeneer_holds : Rows.FnExactFeatureOfVeneerSaid := fnExactFeatureOfVeneer.proved
end Go.Proofs.Yteafahnopgmgoaa
