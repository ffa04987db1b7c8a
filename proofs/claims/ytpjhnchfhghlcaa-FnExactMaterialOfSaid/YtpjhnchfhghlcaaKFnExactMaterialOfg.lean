/- The statement FnExactMaterialOf: for all pictures and rates the program and the reference give the same cost of the veneers and the same code; what is handed over stays as it is. This text holds the last walks, the plain law and the row. -/
import Derived.Test.YtpjhnchfhghlcaaRows
import Derived.WalkKit
import Derived.ProofKit
import Derived.OpenShut
import Derived.ShutString
import Derived.ChangeOld
import Derived.Below
import Derived.SizedLaws
import Derived.Carry
import Derived.Test.YtpjhnchfhghlcaaKFnExactMaterialOfa
import Derived.Test.YtpjhnchfhghlcaaKFnExactMaterialOfd
import Derived.Test.YtpjhnchfhghlcaaKFnExactMaterialOff
import Derived.Test.YtpjhnchfhghlcaaKFnExactMaterialOfc
import Derived.Test.YtpjhnchfhghlcaaKFnExactMaterialOfb
import Derived.Test.YtpjhnchfhghlcaaKFnExactMaterialOfe
set_option linter.unusedVariables false
set_option linter.unusedSimpArgs false
namespace Go.Proofs.Ytpjhnchfhghlcaa.Q
open Go.RowKit Go.Proofs.YtpjhnchfhghlcaaW.PrintWords Go.Proofs.YtpjhnchfhghlcaaW.PrintLast Go.Proofs.YtpjhnchfhghlcaaW.PrintMore
theorem rdl_Point (l : List S96) (i : Nat) (h : i < l.length) : rd_T96 l (i : Int) = l[i] := by unfold rd_T96; exact getD_in l _ i h
theorem rdi_Point (l : List S81) (i : Nat) (h : i < l.length) : ab_ l (i : Int) = l[i] := by unfold ab_; exact getD_in l _ i h
def Z_Point (x : S96) : Nat := 0
def dt_ (l : List S96) : Nat := l.length + (l.map Z_Point).sum
theorem ZS_in_Point (l : List S96) : l.length ≤ dt_ l ∧ ∀ y ∈ l, Z_Point y ≤ dt_ l := ⟨by unfold dt_; omega, fun y hy => by have := sum_le Z_Point l y hy; unfold dt_; omega⟩
theorem szS_Point (l : List S96) (hl : l.length ≤ maxLen) (hw : ∀ y ∈ l, W96 y) (c : Int) (h0 : 0 ≤ c) (h1 : c ≤ 1048576) : Ev (fun k => cG_.f l c) (cut c (dt_ l)) := by
 have hM : maxLen = 9223372036854775807 := by decide
 rw [hM] at hl
 have hs : ∀ l : List S96, (l.map Z_Point).sum = 0 := by
  intro l
  induction l with
  | nil => rfl
  | cons a l ih => rw [List.map_cons, List.sum_cons, ih]; rfl
 have hz : dt_ l = l.length := by unfold dt_; rw [hs]; rfl
 simp only [cG_.f]
 rw [wr64 (x := c - (l.length : Int)) (by omega) (by omega), hz]
 by_cases g : c - (l.length : Int) < 0
 rotate_left
 ·rw [cW_ (by omega)]; exact Ev_f g (Ev_n rfl)
 rw [cs_ (by omega)]; exact Ev_t g (Ev_n rfl)
def cO_ (x : S96) : S81 := ⟨x.f0, x.f1⟩
def B_Point (x : S96) : Prop := True
theorem B_of_Point (x : S96) (h : (Z_Point x : Int) ≤ 1048576) : B_Point x := by
 unfold Z_Point at h
 unfold B_Point
 trivial
theorem to_Point (x : S96) (hb : B_Point x) : Ev (fun k => dg_.f (x.f0) (x.f1)) ((cO_ x).f0, (cO_ x).f1) := by
 unfold B_Point at hb
 simp only [dg_.f]
 exact Ev_n rfl
theorem toS_Point (l : List S96) (hl : (l.length : Int) ≤ 1048576) (hb : ∀ y ∈ l, B_Point y) : Ev (fun k => bm_.f k l) (l.map cO_) := by
 have go : ∀ (d i : Nat) (xs : List S81), i + d = l.length → xs.length = l.length → xs.take i = (l.map cO_).take i → Ev (fun k => bm_.l0 k l xs i) (l.map cO_) := by
  intro d
  induction d with
  | zero =>
   intro i xs q1 q2 q3
   refine aK_ ?_
   simp only [bm_.l0]
   rw [List.take_of_length_le (by omega), List.take_of_length_le (by simp; omega)] at q3
   rw [q3]
   exact Ev_f (by omega) (Ev_n rfl)
  | succ d ih =>
   intro i xs q1 q2 q3
   refine aK_ ?_
   simp only [bm_.l0]
   refine Ev_t (by omega) (Ev_t (by omega) ?_)
   rw [rdl_Point l i (by omega)]
   refine Ev_b (to_Point l[i] (hb _ (List.getElem_mem _))) ?_
   refine Ev_t (by omega) ?_
   rw [wr64s i (by omega), Int.toNat_natCast]
   refine ih (i + 1) _ (by omega) (by rw [List.length_set]; exact q2) ?_
   rw [set_take' _ _ _ (by omega), q3, List.take_succ_eq_append_getElem (by simp; omega)]
   simp [cO_]
 simp only [bm_.f]
 refine Ev_t (by omega) (Ev_t (by omega) ?_)
 exact go l.length 0 _ (by omega) (by simp) (by simp)
def E_Point (x : S81) : Prop := True
theorem E_of_Point (x : S96) (hb : B_Point x) : E_Point (cO_ x) := by
 unfold B_Point at hb
 unfold E_Point
 exact trivial
theorem eq_Point (x : S81) (he : E_Point x) : Ev (fun k => di_.f (x.f0) (x.f1) (x.f0) (x.f1)) true := by
 unfold E_Point at he
 simp only [di_.f, if_true]
 exact Ev_n rfl
theorem eqS_Point (m : List S81) (hl : (m.length : Int) ≤ 1048576) (he : ∀ y ∈ m, E_Point y) : Ev (fun k => aW_.f k m m) true := by
 have go : ∀ (d i : Nat), i + d = m.length → Ev (fun k => aW_.l0 k m m i) true := by
  intro d
  induction d with
  | zero =>
   intro i q1
   refine aK_ ?_
   simp only [aW_.l0]
   exact Ev_f (by omega) (Ev_n rfl)
  | succ d ih =>
   intro i q1
   refine aK_ ?_
   simp only [aW_.l0]
   refine Ev_t (by omega) (Ev_t (by omega) (Ev_t (by omega) ?_))
   rw [rdi_Point m i (by omega)]
   refine Ev_b (eq_Point m[i] (he _ (List.getElem_mem _))) ?_
   rw [wr64s i (by omega)]
   exact Ev_t rfl (ih (i + 1) (by omega))
 simp only [aW_.f]
 exact Ev_t (by first | trivial | rfl) (go m.length 0 (by omega))
theorem rdl_Face (l : List S90) (i : Nat) (h : i < l.length) : dk_ l (i : Int) = l[i] := by unfold dk_; exact getD_in l _ i h
theorem rdi_Face (l : List S85) (i : Nat) (h : i < l.length) : aA_ l (i : Int) = l[i] := by unfold aA_; exact getD_in l _ i h
def Z_Face (x : S90) : Nat := x.f0.size + x.f1.length
def ZS_Face (l : List S90) : Nat := l.length + (l.map Z_Face).sum
theorem ZS_in_Face (l : List S90) : l.length ≤ ZS_Face l ∧ ∀ y ∈ l, Z_Face y ≤ ZS_Face l := ⟨by unfold ZS_Face; omega, fun y hy => by have := sum_le Z_Face l y hy; unfold ZS_Face; omega⟩
theorem sz_Face (x : S90) (hw : W90 x) (c : Int) (h0 : 0 ≤ c) (h1 : c ≤ 1048576) : Ev (fun k => dq_.f (x.f0) (x.f1) c) (cut c (Z_Face x)) := by
 have hM : maxLen = 9223372036854775807 := by decide
 unfold W90 at hw
 obtain ⟨w0, w1⟩ := hw
 simp only [dq_.f]
 have b0 : x.f0.size ≤ maxLen := w0
 rw [hM] at b0
 have e0 : wrap64 (c - ((x.f0.size : Nat) : Int)) = c - ((x.f0.size : Nat) : Int) := wr64 (by omega) (by omega)
 simp only [e0]
 by_cases g0 : c - ((x.f0.size : Nat) : Int) < 0
 ·rw [cs_ (by unfold Z_Face; omega)]; exact Ev_t g0 (Ev_n rfl)
 refine Ev_f g0 ?_
 obtain ⟨c0, hc0⟩ : ∃ z_, z_ = c - ((x.f0.size : Nat) : Int) := ⟨_, rfl⟩
 simp only [← hc0]
 refine Ev_b (sz_Int64S x.f1 (by first | exact w1.1 | exact w1) c0 (by omega) (by omega)) ?_
 by_cases g1 : ((x.f1.length : Nat) : Int) ≤ c0
 case neg => rw [cs_ g1, cs_ (by unfold Z_Face; omega)]; exact Ev_t (by decide) (Ev_n rfl)
 rw [cW_ g1]
 refine Ev_f (by omega) ?_
 obtain ⟨c1, hc1⟩ : ∃ z_, z_ = c0 - ((x.f1.length : Nat) : Int) := ⟨_, rfl⟩
 simp only [← hc1]
 rw [cW_ (by unfold Z_Face; omega)]
 exact Ev_n (by unfold Z_Face; omega)
theorem szS_Face (l : List S90) (hl : l.length ≤ maxLen) (hw : ∀ y ∈ l, W90 y) (c : Int) (h0 : 0 ≤ c) (h1 : c ≤ 1048576) : Ev (fun k => bE_.f k l c) (cut c (ZS_Face l)) := by
 have hM : maxLen = 9223372036854775807 := by decide
 rw [hM] at hl
 have go : ∀ (d i : Nat) (c : Int), i + d = l.length → l.length ≤ 1048576 → 0 ≤ c → c ≤ 1048576 → Ev (fun k => bE_.l0 k l c i) (cut c (((l.drop i).map Z_Face).sum : Nat)) := by
  intro d
  induction d with
  | zero =>
   intro i c q1 q2 q3 q4
   refine aK_ ?_
   simp only [bE_.l0]
   rw [List.drop_of_length_le (by omega), cW_ (by simpa using q3)]
   exact Ev_f (by omega) (Ev_n (by simp))
  | succ d ih =>
   intro i c q1 q2 q3 q4
   refine aK_ ?_
   simp only [bE_.l0]
   refine Ev_t (by omega) (Ev_t (by omega) ?_)
   rw [rdl_Face l i (by omega)]
   refine Ev_b (sz_Face l[i] (hw _ (List.getElem_mem _)) c q3 q4) ?_
   rw [List.drop_eq_getElem_cons (show i < l.length by omega), List.map_cons, List.sum_cons]
   by_cases g : ((Z_Face l[i] : Nat) : Int) ≤ c
   case neg => rw [cs_ g, cs_ (by omega)]; exact Ev_t (by decide) (Ev_n rfl)
   rw [cW_ g]
   refine Ev_f (by omega) ?_
   rw [wr64s i (by omega)]
   refine Ev_at (ih (i + 1) _ (by omega) q2 (by omega) (by omega)) ?_
   unfold cut
   split <;> split <;> omega
 simp only [bE_.f]
 rw [wr64 (x := c - (l.length : Int)) (by omega) (by omega)]
 by_cases g : c - (l.length : Int) < 0
 rotate_left
 ·refine Ev_f g (Ev_at (go l.length 0 _ (by omega) (by omega) (by omega) (by omega)) ?_)
  rw [List.drop_zero]
  unfold cut ZS_Face
  split <;> split <;> omega
 rw [cs_ (by unfold ZS_Face; omega)]
 exact Ev_t g (Ev_n rfl)
def da_ (x : S90) : S85 := ⟨x.f0, x.f1⟩
def B_Face (x : S90) : Prop := ((x.f1.length : Int) ≤ 1048576)
theorem B_of_Face (x : S90) (h : (Z_Face x : Int) ≤ 1048576) : B_Face x := by
 unfold Z_Face at h
 unfold B_Face
 exact by omega
theorem to_Face (x : S90) (hb : B_Face x) : Ev (fun k => dn_.f k (x.f0) (x.f1)) ((da_ x).f0, (da_ x).f1) := by
 unfold B_Face at hb
 simp only [dn_.f]
 refine Ev_b (to_Int64S x.f1 hb) ?_
 exact Ev_n rfl
theorem toS_Face (l : List S90) (hl : (l.length : Int) ≤ 1048576) (hb : ∀ y ∈ l, B_Face y) : Ev (fun k => bs_.f k l) (l.map da_) := by
 have go : ∀ (d i : Nat) (xs : List S85), i + d = l.length → xs.length = l.length → xs.take i = (l.map da_).take i → Ev (fun k => bs_.l0 k l xs i) (l.map da_) := by
  intro d
  induction d with
  | zero =>
   intro i xs q1 q2 q3
   refine aK_ ?_
   simp only [bs_.l0]
   rw [List.take_of_length_le (by omega), List.take_of_length_le (by simp; omega)] at q3
   rw [q3]
   exact Ev_f (by omega) (Ev_n rfl)
  | succ d ih =>
   intro i xs q1 q2 q3
   refine aK_ ?_
   simp only [bs_.l0]
   refine Ev_t (by omega) (Ev_t (by omega) ?_)
   rw [rdl_Face l i (by omega)]
   refine Ev_b (to_Face l[i] (hb _ (List.getElem_mem _))) ?_
   refine Ev_t (by omega) ?_
   rw [wr64s i (by omega), Int.toNat_natCast]
   refine ih (i + 1) _ (by omega) (by rw [List.length_set]; exact q2) ?_
   rw [set_take' _ _ _ (by omega), q3, List.take_succ_eq_append_getElem (by simp; omega)]
   simp [da_]
 simp only [bs_.f]
 refine Ev_t (by omega) (Ev_t (by omega) ?_)
 exact go l.length 0 _ (by omega) (by simp) (by simp)
def E_Face (x : S85) : Prop := ((x.f1.length : Int) ≤ 1048576)
theorem E_of_Face (x : S90) (hb : B_Face x) : E_Face (da_ x) := by
 unfold B_Face at hb
 unfold E_Face
 exact by unfold da_; simpa using hb
theorem eq_Face (x : S85) (he : E_Face x) : Ev (fun k => dp_.f k (x.f0) (x.f1) (x.f0) (x.f1)) true := by
 unfold E_Face at he
 simp only [dp_.f, if_true]
 refine Ev_b (eq_Int64S x.f1 he) ?_
 simp only [if_true]
 exact Ev_n rfl
theorem eqS_Face (m : List S85) (hl : (m.length : Int) ≤ 1048576) (he : ∀ y ∈ m, E_Face y) : Ev (fun k => ba_.f k m m) true := by
 have go : ∀ (d i : Nat), i + d = m.length → Ev (fun k => ba_.l0 k m m i) true := by
  intro d
  induction d with
  | zero =>
   intro i q1
   refine aK_ ?_
   simp only [ba_.l0]
   exact Ev_f (by omega) (Ev_n rfl)
  | succ d ih =>
   intro i q1
   refine aK_ ?_
   simp only [ba_.l0]
   refine Ev_t (by omega) (Ev_t (by omega) (Ev_t (by omega) ?_))
   rw [rdi_Face m i (by omega)]
   refine Ev_b (eq_Face m[i] (he _ (List.getElem_mem _))) ?_
   rw [wr64s i (by omega)]
   exact Ev_t rfl (ih (i + 1) (by omega))
 simp only [ba_.f]
 exact Ev_t (by first | trivial | rfl) (go m.length 0 (by omega))
def dc_ (x : S25) : Nat := (dt_ x.f2) + (ZS_Face x.f3)
theorem sz_Drawing (x : S25) (hw : W25 x) (c : Int) (h0 : 0 ≤ c) (h1 : c ≤ 1048576) : Ev (fun k => cz_.f k (x.f0) (x.f1) (x.f2) (x.f3) c) (cut c (dc_ x)) := by
 have hM : maxLen = 9223372036854775807 := by decide
 unfold W25 at hw
 obtain ⟨w0, w1, w2, w3⟩ := hw
 simp only [cz_.f]
 refine Ev_b (szS_Point x.f2 w2.1 w2.2 c (by omega) (by omega)) ?_
 by_cases g2 : (((dt_ x.f2) : Nat) : Int) ≤ c
 case neg => rw [cs_ g2, cs_ (by unfold dc_; omega)]; exact Ev_t (by decide) (Ev_n rfl)
 rw [cW_ g2]
 refine Ev_f (by omega) ?_
 obtain ⟨c2, hc2⟩ : ∃ z_, z_ = c - (((dt_ x.f2) : Nat) : Int) := ⟨_, rfl⟩
 simp only [← hc2]
 refine Ev_b (szS_Face x.f3 w3.1 w3.2 c2 (by omega) (by omega)) ?_
 by_cases g3 : (((ZS_Face x.f3) : Nat) : Int) ≤ c2
 case neg => rw [cs_ g3, cs_ (by unfold dc_; omega)]; exact Ev_t (by decide) (Ev_n rfl)
 rw [cW_ g3]
 refine Ev_f (by omega) ?_
 obtain ⟨c3, hc3⟩ : ∃ z_, z_ = c2 - (((ZS_Face x.f3) : Nat) : Int) := ⟨_, rfl⟩
 simp only [← hc3]
 rw [cW_ (by unfold dc_; omega)]
 exact Ev_n (by unfold dc_; omega)
def cD_ (x : S25) : S37 := ⟨x.f0, x.f1, (x.f2.map cO_), (x.f3.map da_)⟩
def B_Drawing (x : S25) : Prop := ((x.f2.length : Int) ≤ 1048576 ∧ ∀ y ∈ x.f2, B_Point y) ∧ ((x.f3.length : Int) ≤ 1048576 ∧ ∀ y ∈ x.f3, B_Face y)
theorem B_of_Drawing (x : S25) (h : (dc_ x : Int) ≤ 1048576) : B_Drawing x := by
 unfold dc_ at h
 unfold B_Drawing
 exact ⟨⟨by have := (ZS_in_Point x.f2).1; omega, fun y hy => B_of_Point y (by have := (ZS_in_Point x.f2).2 y hy; omega)⟩, ⟨by have := (ZS_in_Face x.f3).1; omega, fun y hy => B_of_Face y (by have := (ZS_in_Face x.f3).2 y hy; omega)⟩⟩
theorem to_Drawing (x : S25) (hb : B_Drawing x) : Ev (fun k => cu_.f k (x.f0) (x.f1) (x.f2) (x.f3)) ((cD_ x).f0, (cD_ x).f1, (cD_ x).f2, (cD_ x).f3) := by
 unfold B_Drawing at hb
 simp only [cu_.f]
 refine Ev_b (toS_Point x.f2 hb.1.1 hb.1.2) ?_
 refine Ev_b (toS_Face x.f3 hb.2.1 hb.2.2) ?_
 exact Ev_n rfl
def E_Drawing (x : S37) : Prop := ((x.f2.length : Int) ≤ 1048576 ∧ ∀ y ∈ x.f2, E_Point y) ∧ ((x.f3.length : Int) ≤ 1048576 ∧ ∀ y ∈ x.f3, E_Face y)
theorem E_of_Drawing (x : S25) (hb : B_Drawing x) : E_Drawing (cD_ x) := by
 unfold B_Drawing at hb
 unfold E_Drawing
 exact ⟨⟨by unfold cD_; simpa using hb.1.1, fun y hy => by have hy' : y ∈ x.f2.map cO_ := hy; obtain ⟨z, hz, rfl⟩ := List.mem_map.1 hy'; exact E_of_Point z (hb.1.2 z hz)⟩, ⟨by unfold cD_; simpa using hb.2.1, fun y hy => by have hy' : y ∈ x.f3.map da_ := hy; obtain ⟨z, hz, rfl⟩ := List.mem_map.1 hy'; exact E_of_Face z (hb.2.2 z hz)⟩⟩
theorem eq_Drawing (x : S37) (he : E_Drawing x) : Ev (fun k => cw_.f k (x.f0) (x.f1) (x.f2) (x.f3) (x.f0) (x.f1) (x.f2) (x.f3)) true := by
 unfold E_Drawing at he
 simp only [cw_.f, if_true]
 refine Ev_b (eqS_Point x.f2 he.1.1 he.1.2) ?_
 simp only [if_true]
 refine Ev_b (eqS_Face x.f3 he.2.1 he.2.2) ?_
 simp only [if_true]
 exact Ev_n rfl
theorem rdl_Veneer (l : List S66) (i : Nat) (h : i < l.length) : cK_ l (i : Int) = l[i] := by unfold cK_; exact getD_in l _ i h
theorem rdi_Veneer (l : List S56) (i : Nat) (h : i < l.length) : aR_ l (i : Int) = l[i] := by unfold aR_; exact getD_in l _ i h
def dl_ (x : S66) : Nat := x.f0.size
def db_ (l : List S66) : Nat := l.length + (l.map dl_).sum
theorem ZS_in_Veneer (l : List S66) : l.length ≤ db_ l ∧ ∀ y ∈ l, dl_ y ≤ db_ l := ⟨by unfold db_; omega, fun y hy => by have := sum_le dl_ l y hy; unfold db_; omega⟩
theorem sz_Veneer (x : S66) (hw : W66 x) (c : Int) (h0 : 0 ≤ c) (h1 : c ≤ 1048576) : Ev (fun k => cQ_.f (x.f0) (x.f1) (x.f2) c) (cut c (dl_ x)) := by
 have hM : maxLen = 9223372036854775807 := by decide
 unfold W66 at hw
 obtain ⟨w0, w1, w2⟩ := hw
 simp only [cQ_.f]
 have b0 : x.f0.size ≤ maxLen := w0
 rw [hM] at b0
 have e0 : wrap64 (c - ((x.f0.size : Nat) : Int)) = c - ((x.f0.size : Nat) : Int) := wr64 (by omega) (by omega)
 simp only [e0]
 by_cases g0 : c - ((x.f0.size : Nat) : Int) < 0
 ·rw [cs_ (by unfold dl_; omega)]; exact Ev_t g0 (Ev_n rfl)
 refine Ev_f g0 ?_
 obtain ⟨c0, hc0⟩ : ∃ z_, z_ = c - ((x.f0.size : Nat) : Int) := ⟨_, rfl⟩
 simp only [← hc0]
 rw [cW_ (by unfold dl_; omega)]
 exact Ev_n (by unfold dl_; omega)
theorem szS_Veneer (l : List S66) (hl : l.length ≤ maxLen) (hw : ∀ y ∈ l, W66 y) (c : Int) (h0 : 0 ≤ c) (h1 : c ≤ 1048576) : Ev (fun k => bn_.f k l c) (cut c (db_ l)) := by
 have hM : maxLen = 9223372036854775807 := by decide
 rw [hM] at hl
 have go : ∀ (d i : Nat) (c : Int), i + d = l.length → l.length ≤ 1048576 → 0 ≤ c → c ≤ 1048576 → Ev (fun k => bn_.l0 k l c i) (cut c (((l.drop i).map dl_).sum : Nat)) := by
  intro d
  induction d with
  | zero =>
   intro i c q1 q2 q3 q4
   refine aK_ ?_
   simp only [bn_.l0]
   rw [List.drop_of_length_le (by omega), cW_ (by simpa using q3)]
   exact Ev_f (by omega) (Ev_n (by simp))
  | succ d ih =>
   intro i c q1 q2 q3 q4
   refine aK_ ?_
   simp only [bn_.l0]
   refine Ev_t (by omega) (Ev_t (by omega) ?_)
   rw [rdl_Veneer l i (by omega)]
   refine Ev_b (sz_Veneer l[i] (hw _ (List.getElem_mem _)) c q3 q4) ?_
   rw [List.drop_eq_getElem_cons (show i < l.length by omega), List.map_cons, List.sum_cons]
   by_cases g : ((dl_ l[i] : Nat) : Int) ≤ c
   case neg => rw [cs_ g, cs_ (by omega)]; exact Ev_t (by decide) (Ev_n rfl)
   rw [cW_ g]
   refine Ev_f (by omega) ?_
   rw [wr64s i (by omega)]
   refine Ev_at (ih (i + 1) _ (by omega) q2 (by omega) (by omega)) ?_
   unfold cut
   split <;> split <;> omega
 simp only [bn_.f]
 rw [wr64 (x := c - (l.length : Int)) (by omega) (by omega)]
 by_cases g : c - (l.length : Int) < 0
 rotate_left
 ·refine Ev_f g (Ev_at (go l.length 0 _ (by omega) (by omega) (by omega) (by omega)) ?_)
  rw [List.drop_zero]
  unfold cut db_
  split <;> split <;> omega
 rw [cs_ (by unfold db_; omega)]
 exact Ev_t g (Ev_n rfl)
def cx_ (x : S66) : S56 := ⟨x.f0, x.f1, x.f2⟩
def B_Veneer (x : S66) : Prop := True
theorem B_of_Veneer (x : S66) (h : (dl_ x : Int) ≤ 1048576) : B_Veneer x := by
 unfold dl_ at h
 unfold B_Veneer
 trivial
theorem to_Veneer (x : S66) (hb : B_Veneer x) : Ev (fun k => cP_.f (x.f0) (x.f1) (x.f2)) ((cx_ x).f0, (cx_ x).f1, (cx_ x).f2) := by
 unfold B_Veneer at hb
 simp only [cP_.f]
 exact Ev_n rfl
theorem toS_Veneer (l : List S66) (hl : (l.length : Int) ≤ 1048576) (hb : ∀ y ∈ l, B_Veneer y) : Ev (fun k => bf_.f k l) (l.map cx_) := by
 have go : ∀ (d i : Nat) (xs : List S56), i + d = l.length → xs.length = l.length → xs.take i = (l.map cx_).take i → Ev (fun k => bf_.l0 k l xs i) (l.map cx_) := by
  intro d
  induction d with
  | zero =>
   intro i xs q1 q2 q3
   refine aK_ ?_
   simp only [bf_.l0]
   rw [List.take_of_length_le (by omega), List.take_of_length_le (by simp; omega)] at q3
   rw [q3]
   exact Ev_f (by omega) (Ev_n rfl)
  | succ d ih =>
   intro i xs q1 q2 q3
   refine aK_ ?_
   simp only [bf_.l0]
   refine Ev_t (by omega) (Ev_t (by omega) ?_)
   rw [rdl_Veneer l i (by omega)]
   refine Ev_b (to_Veneer l[i] (hb _ (List.getElem_mem _))) ?_
   refine Ev_t (by omega) ?_
   rw [wr64s i (by omega), Int.toNat_natCast]
   refine ih (i + 1) _ (by omega) (by rw [List.length_set]; exact q2) ?_
   rw [set_take' _ _ _ (by omega), q3, List.take_succ_eq_append_getElem (by simp; omega)]
   simp [cx_]
 simp only [bf_.f]
 refine Ev_t (by omega) (Ev_t (by omega) ?_)
 exact go l.length 0 _ (by omega) (by simp) (by simp)
def E_Veneer (x : S56) : Prop := True
theorem E_of_Veneer (x : S66) (hb : B_Veneer x) : E_Veneer (cx_ x) := by
 unfold B_Veneer at hb
 unfold E_Veneer
 exact trivial
theorem eq_Veneer (x : S56) (he : E_Veneer x) : Ev (fun k => cS_.f (x.f0) (x.f1) (x.f2) (x.f0) (x.f1) (x.f2)) true := by
 unfold E_Veneer at he
 simp only [cS_.f, if_true]
 exact Ev_n rfl
theorem eqS_Veneer (m : List S56) (hl : (m.length : Int) ≤ 1048576) (he : ∀ y ∈ m, E_Veneer y) : Ev (fun k => aS_.f k m m) true := by
 have go : ∀ (d i : Nat), i + d = m.length → Ev (fun k => aS_.l0 k m m i) true := by
  intro d
  induction d with
  | zero =>
   intro i q1
   refine aK_ ?_
   simp only [aS_.l0]
   exact Ev_f (by omega) (Ev_n rfl)
  | succ d ih =>
   intro i q1
   refine aK_ ?_
   simp only [aS_.l0]
   refine Ev_t (by omega) (Ev_t (by omega) (Ev_t (by omega) ?_))
   rw [rdi_Veneer m i (by omega)]
   refine Ev_b (eq_Veneer m[i] (he _ (List.getElem_mem _))) ?_
   rw [wr64s i (by omega)]
   exact Ev_t rfl (ih (i + 1) (by omega))
 simp only [aS_.f]
 exact Ev_t (by first | trivial | rfl) (go m.length 0 (by omega))
def dw_ (x : S28) : Nat := (dc_ x.f0) + (db_ x.f1)
theorem sz_Picture (x : S28) (hw : W28 x) (c : Int) (h0 : 0 ≤ c) (h1 : c ≤ 1048576) : Ev (fun k => ct_.f k (x.f0.f0) (x.f0.f1) (x.f0.f2) (x.f0.f3) (x.f1) c) (cut c (dw_ x)) := by
 have hM : maxLen = 9223372036854775807 := by decide
 unfold W28 at hw
 obtain ⟨w0, w1⟩ := hw
 simp only [ct_.f]
 refine Ev_b (sz_Drawing x.f0 w0 c (by omega) (by omega)) ?_
 by_cases g0 : (((dc_ x.f0) : Nat) : Int) ≤ c
 case neg => rw [cs_ g0, cs_ (by unfold dw_; omega)]; exact Ev_t (by decide) (Ev_n rfl)
 rw [cW_ g0]
 refine Ev_f (by omega) ?_
 obtain ⟨c0, hc0⟩ : ∃ z_, z_ = c - (((dc_ x.f0) : Nat) : Int) := ⟨_, rfl⟩
 simp only [← hc0]
 refine Ev_b (szS_Veneer x.f1 w1.1 w1.2 c0 (by omega) (by omega)) ?_
 by_cases g1 : (((db_ x.f1) : Nat) : Int) ≤ c0
 case neg => rw [cs_ g1, cs_ (by unfold dw_; omega)]; exact Ev_t (by decide) (Ev_n rfl)
 rw [cW_ g1]
 refine Ev_f (by omega) ?_
 obtain ⟨c1, hc1⟩ : ∃ z_, z_ = c0 - (((db_ x.f1) : Nat) : Int) := ⟨_, rfl⟩
 simp only [← hc1]
 rw [cW_ (by unfold dw_; omega)]
 exact Ev_n (by unfold dw_; omega)
def cq_ (x : S28) : S40 := ⟨(cD_ x.f0), (x.f1.map cx_)⟩
def B_Picture (x : S28) : Prop := B_Drawing x.f0 ∧ ((x.f1.length : Int) ≤ 1048576 ∧ ∀ y ∈ x.f1, B_Veneer y)
theorem B_of_Picture (x : S28) (h : (dw_ x : Int) ≤ 1048576) : B_Picture x := by
 unfold dw_ at h
 unfold B_Picture
 exact ⟨B_of_Drawing x.f0 (by omega), ⟨by have := (ZS_in_Veneer x.f1).1; omega, fun y hy => B_of_Veneer y (by have := (ZS_in_Veneer x.f1).2 y hy; omega)⟩⟩
theorem to_Picture (x : S28) (hb : B_Picture x) : Ev (fun k => bJ_.f k (x.f0.f0) (x.f0.f1) (x.f0.f2) (x.f0.f3) (x.f1)) ((cq_ x).f0.f0, (cq_ x).f0.f1, (cq_ x).f0.f2, (cq_ x).f0.f3, (cq_ x).f1) := by
 unfold B_Picture at hb
 simp only [bJ_.f]
 refine Ev_b (to_Drawing x.f0 hb.1) ?_
 refine Ev_b (toS_Veneer x.f1 hb.2.1 hb.2.2) ?_
 exact Ev_n rfl
def E_Picture (x : S40) : Prop := E_Drawing x.f0 ∧ ((x.f1.length : Int) ≤ 1048576 ∧ ∀ y ∈ x.f1, E_Veneer y)
theorem E_of_Picture (x : S28) (hb : B_Picture x) : E_Picture (cq_ x) := by
 unfold B_Picture at hb
 unfold E_Picture
 exact ⟨E_of_Drawing _ hb.1, ⟨by unfold cq_; simpa using hb.2.1, fun y hy => by have hy' : y ∈ x.f1.map cx_ := hy; obtain ⟨z, hz, rfl⟩ := List.mem_map.1 hy'; exact E_of_Veneer z (hb.2.2 z hz)⟩⟩
theorem eq_Picture (x : S40) (he : E_Picture x) : Ev (fun k => cA_.f k (x.f0.f0) (x.f0.f1) (x.f0.f2) (x.f0.f3) (x.f1) (x.f0.f0) (x.f0.f1) (x.f0.f2) (x.f0.f3) (x.f1)) true := by
 unfold E_Picture at he
 simp only [cA_.f, if_true]
 refine Ev_b (eq_Drawing x.f0 he.1) ?_
 simp only [if_true]
 refine Ev_b (eqS_Veneer x.f1 he.2.1 he.2.2) ?_
 simp only [if_true]
 exact Ev_n rfl
def conv_Rates (x : S30) : S42 := ⟨x.f0, x.f1, x.f2, x.f3, x.f4⟩
def B_Rates (x : S30) : Prop := True
theorem to_Rates (x : S30) (hb : B_Rates x) : Ev (fun k => ck_.f (x.f0) (x.f1) (x.f2) (x.f3) (x.f4)) ((conv_Rates x).f0, (conv_Rates x).f1, (conv_Rates x).f2, (conv_Rates x).f3, (conv_Rates x).f4) := by
 unfold B_Rates at hb
 simp only [ck_.f]
 exact Ev_n rfl
theorem ite_and (b c : Bool) : (if b = true then some c else some false) = some (b && c) := by cases b <;> rfl
theorem in_f (a b c : Int) : ao_.f a b c = some (decide (b ≤ a) && decide (a ≤ c)) := by unfold ao_.f; by_cases h : a ≥ b <;> simp [h]
theorem within_f (a b c : Int) : am_.f a b c = some (decide (b ≤ a) && decide (a ≤ c)) := by unfold am_.f; by_cases h : a ≥ b <;> simp [h]
theorem w64 {x : Int} (h0 : -9223372036854775808 ≤ x) (h1 : x < 9223372036854775808) : wrap64 x = x := by unfold wrap64; omega
def spi (l : List UInt8) : Int := if l = [97, 115, 104] then 0 else if l = [98, 101, 101, 99, 104] then 1 else if l = [98, 105, 114, 99, 104] then 2 else if l = [99, 104, 101, 114, 114, 121] then 3 else if l = [101, 98, 111, 110, 121] then 4 else if l = [104, 111, 108, 108, 121] then 5 else if l = [109, 97, 112, 108, 101] then 6 else if l = [111, 97, 107] then 7 else if l = [114, 111, 115, 101, 119, 111, 111, 100] then 8 else if l = [119, 97, 108, 110, 117, 116] then 9 else -1
def shades : List Int := [20, 35, 15, 50, 95, 5, 10, 40, 80, 70]
def prices : List Int := [30, 25, 28, 45, 160, 60, 32, 35, 120, 70]
theorem sp_cases (l : List UInt8) : (l = [97, 115, 104]) ∨ (l = [98, 101, 101, 99, 104]) ∨ (l = [98, 105, 114, 99, 104]) ∨ (l = [99, 104, 101, 114, 114, 121]) ∨ (l = [101, 98, 111, 110, 121]) ∨ (l = [104, 111, 108, 108, 121]) ∨ (l = [109, 97, 112, 108, 101]) ∨ (l = [111, 97, 107]) ∨ (l = [114, 111, 115, 101, 119, 111, 111, 100]) ∨ (l = [119, 97, 108, 110, 117, 116]) ∨ (¬ l = [97, 115, 104] ∧ ¬ l = [98, 101, 101, 99, 104] ∧ ¬ l = [98, 105, 114, 99, 104] ∧ ¬ l = [99, 104, 101, 114, 114, 121] ∧ ¬ l = [101, 98, 111, 110, 121] ∧ ¬ l = [104, 111, 108, 108, 121] ∧ ¬ l = [109, 97, 112, 108, 101] ∧ ¬ l = [111, 97, 107] ∧ ¬ l = [114, 111, 115, 101, 119, 111, 111, 100] ∧ ¬ l = [119, 97, 108, 110, 117, 116]) := by
 by_cases h0 : l = [97, 115, 104]
 ·exact .inl h0
 by_cases h1 : l = [98, 101, 101, 99, 104]
 ·exact .inr ((.inl h1))
 by_cases h2 : l = [98, 105, 114, 99, 104]
 ·exact .inr (.inr ((.inl h2)))
 by_cases h3 : l = [99, 104, 101, 114, 114, 121]
 ·exact .inr (.inr (.inr ((.inl h3))))
 by_cases h4 : l = [101, 98, 111, 110, 121]
 ·exact .inr (.inr (.inr (.inr ((.inl h4)))))
 by_cases h5 : l = [104, 111, 108, 108, 121]
 ·exact .inr (.inr (.inr (.inr (.inr ((.inl h5))))))
 by_cases h6 : l = [109, 97, 112, 108, 101]
 ·exact .inr (.inr (.inr (.inr (.inr (.inr ((.inl h6)))))))
 by_cases h7 : l = [111, 97, 107]
 ·exact .inr (.inr (.inr (.inr (.inr (.inr (.inr ((.inl h7))))))))
 by_cases h8 : l = [114, 111, 115, 101, 119, 111, 111, 100]
 ·exact .inr (.inr (.inr (.inr (.inr (.inr (.inr (.inr ((.inl h8)))))))))
 by_cases h9 : l = [119, 97, 108, 110, 117, 116]
 ·exact .inr (.inr (.inr (.inr (.inr (.inr (.inr (.inr (.inr ((.inl h9))))))))))
 exact .inr (.inr (.inr (.inr (.inr (.inr (.inr (.inr (.inr (.inr (⟨h0, h1, h2, h3, h4, h5, h6, h7, h8, h9⟩))))))))))
theorem l07Find_f (a : ByteArray) (k : Nat) (hk : 12 ≤ k) : bB_.f k a = some (spi a.toList) := by
 obtain ⟨k, rfl⟩ : ∃ m, k = m + 12 := ⟨k - 12, by omega⟩
 unfold bB_.f cV_.f spi
 simp only [Option.bind_some, bB_.l0, wrap64, rdOf]
 simp (decide := true)
 generalize a.toList = l
 simp only [eq_comm (b := l)]
 rcases sp_cases l with h | h | h | h | h | h | h | h | h | h | h
 all_goals first | (subst h; decide) | (obtain ⟨h0, h1, h2, h3, h4, h5, h6, h7, h8, h9⟩ := h; simp only [h0, h1, h2, h3, h4, h5, h6, h7, h8, h9, if_false])
def vVen (l : List UInt8) (sh gr : Int) : Bool := decide (0 ≤ spi l) && ((decide (0 ≤ sh) && decide (sh ≤ 100)) && ((decide (rd shades (spi l) - 15 ≤ sh) && decide (sh ≤ rd shades (spi l) + 15)) && (decide (0 ≤ gr) && decide (gr ≤ 179))))
theorem spi_range (l : List UInt8) : -1 ≤ spi l ∧ spi l ≤ 9 := by
 rcases sp_cases l with h | h | h | h | h | h | h | h | h | h | h
 all_goals first | (subst h; decide) | (obtain ⟨h0, h1, h2, h3, h4, h5, h6, h7, h8, h9⟩ := h; unfold spi; simp only [h0, h1, h2, h3, h4, h5, h6, h7, h8, h9, if_false]; decide)
theorem shade_of (i : Int) (h0 : 0 ≤ i) (h1 : i ≤ 9) : ∃ t, cE_.f = some t ∧ i < t.length ∧ 0 < (rd_L3 t i).length ∧ rd (rd_L3 t i) 0 = rd shades i ∧ 0 ≤ rd shades i ∧ rd shades i ≤ 100 := by
 refine ⟨_, rfl, ?_⟩
 obtain ⟨n, rfl⟩ := Int.eq_ofNat_of_zero_le h0
 have hn : n ≤ 9 := by omega
 match n, hn with
 | 0, _ => decide
 | 1, _ => decide
 | 2, _ => decide
 | 3, _ => decide
 | 4, _ => decide
 | 5, _ => decide
 | 6, _ => decide
 | 7, _ => decide
 | 8, _ => decide
 | 9, _ => decide
theorem iShade_f (a : ByteArray) : bH_.f a = some (if 0 ≤ spi a.toList then (rd shades (spi a.toList), true) else (0, false)) := by
 unfold bH_.f cp_.f spi
 generalize a.toList = l
 rcases sp_cases l with h | h | h | h | h | h | h | h | h | h | h
 all_goals first | (subst h; decide) | (obtain ⟨h0, h1, h2, h3, h4, h5, h6, h7, h8, h9⟩ := h; simp only [h0, h1, h2, h3, h4, h5, h6, h7, h8, h9, if_false]; decide)
theorem l07Ok_f (x : S56) (k : Nat) (hk : 12 ≤ k) : bV_.f k [x] = some (vVen x.f0.toList x.f1 x.f2) := by
 obtain ⟨k, rfl⟩ : ∃ m, k = m + 1 := ⟨k - 1, by omega⟩
 have hrd : aR_ [x] 0 = x := rfl
 unfold bV_.f vVen
 rw [if_pos (by simp), hrd, l07Find_f _ _ hk]
 simp only [Option.bind_some]
 have hr := spi_range x.f0.toList
 by_cases h : spi x.f0.toList < 0
 rotate_left
 ·rw [if_neg h, in_f, show decide (0 ≤ spi x.f0.toList) = true from decide_eq_true (by omega)]
  obtain ⟨t, ht, h1, h2, h3, h4, h5⟩ := shade_of (spi x.f0.toList) (by omega) (by omega)
  simp only [Option.bind_some, bV_.j0]
  cases hs : (decide (0 ≤ x.f1) && decide (x.f1 ≤ 100))
  ·simp
  ·rw [if_neg (by simp), ht]
   simp only [Option.bind_some]
   rw [if_pos (by omega), if_pos h1, if_pos (by omega), if_pos (by simp), hrd, h3, in_f, w64 (by omega) (by omega), w64 (by omega) (by omega)]
   simp only [Option.bind_some, cF_.f, in_f]
   rw [ite_and]
   simp
 rw [if_pos h]
 simp only [bV_.j0, if_true]
 rw [show decide (0 ≤ spi x.f0.toList) = false from decide_eq_false (by omega)]
 rfl
theorem iValidVeneer_f (a : ByteArray) (sh gr : Int) : ce_.f a sh gr = some (vVen a.toList sh gr) := by
 unfold ce_.f vVen
 rw [iShade_f]
 simp only [Option.bind_some]
 have hr := spi_range a.toList
 by_cases h : 0 ≤ spi a.toList
 rotate_left
 ·rw [if_neg h, show decide (0 ≤ spi a.toList) = false from decide_eq_false h]
  simp
 rw [if_pos h]
 obtain ⟨t, ht, h1, h2, h3, h4, h5⟩ := shade_of (spi a.toList) h (by omega)
 simp only [if_true, within_f, Option.bind_some]
 rw [show decide (0 ≤ spi a.toList) = true from decide_eq_true h]
 cases hs : (decide (0 ≤ sh) && decide (sh ≤ 100))
 ·simp
 ·have hs' : 0 ≤ sh ∧ sh ≤ 100 := by simpa using hs
  rw [w64 (by omega) (by omega)]
  simp only [if_true, ite_and, Bool.true_and]
  congr 2
  rw [Bool.eq_iff_iff]
  simp only [Bool.and_eq_true, decide_eq_true_eq]
  omega
abbrev Pnt := S81
theorem side_same (a b c d e f : Int) : bg_.f a b c d e f = bF_.f a b c d e f := by
 unfold bg_.f bF_.f cT_.f
 simp only [Option.bind_some]
theorem dr_ (a b c : Int) : ao_.f a b c = am_.f a b c := by rw [in_f, within_f]
theorem min_f (a b : Int) : cf_.f a b = some (mn a b) := by
 unfold cf_.f mn
 split <;> split <;> first | rfl | (congr 1; omega) | omega
theorem max_f (a b : Int) : cg_.f a b = some (mx a b) := by
 unfold cg_.f mx
 split <;> split <;> first | rfl | (congr 1; omega) | omega
theorem on_same (a b c d e f : Int) : aH_.f a b c d e f = bt_.f a b c d e f := by
 unfold aH_.f bt_.f
 simp only [side_same, min_f, max_f, dr_, Option.bind_some]
theorem crosses_same (a b c d e f g h : Int) : aX_.f a b c d e f g h = be_.f a b c d e f g h := by
 unfold aX_.f be_.f
 simp only [side_same]
theorem meet_same (a b c d e f g h : Int) : cN_.f a b c d e f g h = ch_.f a b c d e f g h := by
 unfold cN_.f ch_.f
 simp only [on_same, crosses_same]
theorem cY_ {α β : Type} {o : Option α} {f : α → Option β} (h : ∃ a, o = some a) (g : ∀ a, ∃ b, f a = some b) : ∃ b, o.bind f = some b := by
 obtain ⟨a, rfl⟩ := h
 exact g a
theorem side_some (a b c d e f : Int) : ∃ v, bF_.f a b c d e f = some v := by
 unfold bF_.f
 split
 ·exact ⟨_, rfl⟩
 ·split <;> exact ⟨_, rfl⟩
theorem on_some (a b c d e f : Int) : ∃ v, bt_.f a b c d e f = some v := by
 unfold bt_.f
 refine cY_ (side_some _ _ _ _ _ _) fun v => ?_
 simp only [within_f, Option.bind_some]
 split
 ·split <;> exact ⟨_, rfl⟩
 ·exact ⟨_, rfl⟩
theorem crossing_some (a b c d e f g h : Int) : ∃ v, be_.f a b c d e f g h = some v := by
 unfold be_.f
 refine cY_ (side_some _ _ _ _ _ _) fun v => cY_ (side_some _ _ _ _ _ _) fun u => ?_
 split
 ·exact cY_ (side_some _ _ _ _ _ _) fun v => cY_ (side_some _ _ _ _ _ _) fun u => ⟨_, rfl⟩
 ·exact ⟨_, rfl⟩
theorem touching_some (a b c d e f g h : Int) : ∃ v, ch_.f a b c d e f g h = some v := by
 unfold ch_.f
 refine cY_ (crossing_some _ _ _ _ _ _ _ _) fun v => ?_
 split
 ·exact ⟨_, rfl⟩
 refine cY_ (on_some _ _ _ _ _ _) fun v => ?_
 split
 ·exact ⟨_, rfl⟩
 refine cY_ (on_some _ _ _ _ _ _) fun v => ?_
 split
 ·exact ⟨_, rfl⟩
 refine cY_ (on_some _ _ _ _ _ _) fun v => ?_
 split
 ·exact ⟨_, rfl⟩
 exact cY_ (on_some _ _ _ _ _ _) fun v => ⟨_, rfl⟩
theorem tm_in (n : Int) (a : Int) (h : 0 < n) (ha : 0 ≤ a) : 0 ≤ Int.tmod a n ∧ Int.tmod a n < n := ⟨Int.tmod_nonneg n ha, Int.tmod_lt_of_pos a h⟩
theorem area_ev (l : List Pnt) (hl : (l.length : Int) ≤ 1048576) : ∃ s, Ev (fun k => bx_.f k l) s ∧ Ev (fun k => br_.f k l) s := by
 have go : ∀ (d i : Nat) (s : Int), i + d = l.length → ∃ r, Ev (fun k => bx_.l0 k l s i) r ∧ Ev (fun k => br_.l0 k l s l (l.length : Int) i) r := by
  intro d
  induction d with
  | zero =>
   intro i s h1
   refine ⟨s, aK_ ?_, aK_ ?_⟩
   ·simp only [bx_.l0]; exact Ev_f (by omega) (Ev_n rfl)
   ·simp only [br_.l0]; exact Ev_f (by omega) (Ev_n rfl)
  | succ d ih =>
   intro i s h1
   have e : wrap64 ((i : Int) + 1) = ((i + 1 : Nat) : Int) := wr64s i (by omega)
   obtain ⟨m1, m2⟩ := tm_in (l.length : Int) (((i + 1 : Nat) : Int)) (by omega) (by omega)
   obtain ⟨r, r1, r2⟩ := ih (i + 1) (wrap64 (s + (wrap64 ((wrap64 (((ab_ l i).f0) * ((ab_ l (Int.tmod ((i + 1 : Nat) : Int) (l.length : Int))).f1))) - (wrap64 (((ab_ l i).f1) * ((ab_ l (Int.tmod ((i + 1 : Nat) : Int) (l.length : Int))).f0))))))) (by omega)
   refine ⟨r, aK_ ?_, aK_ ?_⟩
   ·simp only [bx_.l0, e]; exact Ev_t (by omega) (Ev_f (by omega) (Ev_t m1 (Ev_t m2 (Ev_t (by omega) r1))))
   ·simp only [br_.l0, e]; exact Ev_t (by omega) (Ev_t (by omega) (Ev_t (by omega) (Ev_f (by omega) (Ev_t m1 (Ev_t m2 r2)))))
 obtain ⟨r, r1, r2⟩ := go l.length 0 0 (by omega)
 exact ⟨r, by simp only [bx_.f]; exact r1, by simp only [br_.f]; exact r2⟩
def okP (x : Pnt) : Bool := (decide (0 ≤ x.f0) && decide (x.f0 ≤ 20000)) && (decide (0 ≤ x.f1) && decide (x.f1 ≤ 20000))
theorem okS (a b : Int) : spec_l02Ok.f a b = some (okP ⟨a, b⟩) := by
 unfold spec_l02Ok.f okP
 simp only [in_f, Option.bind_some]
 cases h : (decide (0 ≤ a) && decide (a ≤ 20000)) <;> simp
theorem okI (a b : Int) : cC_.f a b = some (okP ⟨a, b⟩) := by
 unfold cC_.f okP
 simp only [within_f, Option.bind_some]
 cases h : (decide (0 ≤ a) && decide (a ≤ 20000)) <;> simp
theorem edges_ev (l : List Pnt) (h3 : 3 ≤ l.length) (hl : l.length ≤ 24) : ∃ b, Ev (fun k => aq_.l1 k l (l.length : Int) 0) b ∧ Ev (fun k => ag_.l0 k l (l.length : Int) (l.length : Int) 0) b := by
 have inner : ∀ (i : Nat) (a b c d : Int), i < l.length → (∃ r, Ev (fun k => aq_.l1 k l (l.length : Int) ((i + 1 : Nat) : Int)) r ∧ Ev (fun k => ag_.l0 k l (l.length : Int) (l.length : Int) ((i + 1 : Nat) : Int)) r) →
   ∀ (e j : Nat), j + e = l.length + 1 → ∃ r, Ev (fun k => aq_.l2 k l (l.length : Int) i j a b c d) r ∧ Ev (fun k => ag_.l1 k l (l.length : Int) i j (l.length : Int) i a b c d) r := by
  intro i a b c d hi hn e
  obtain ⟨r, r1, r2⟩ := hn
  have ei : wrap64 ((i : Int) + 1) = ((i + 1 : Nat) : Int) := wr64s i (by omega)
  induction e with
  | zero =>
   intro j h1
   refine ⟨r, aK_ ?_, aK_ ?_⟩
   ·simp only [aq_.l2, ei]; exact Ev_f (by omega) r1
   ·simp only [ag_.l1, ei]; exact Ev_f (by omega) r2
  | succ e ih =>
   intro j h1
   have ej : wrap64 ((j : Int) + 1) = ((j + 1 : Nat) : Int) := wr64s j (by omega)
   by_cases hj : (j : Int) < (l.length : Int)
   case neg =>
    refine ⟨r, aK_ ?_, aK_ ?_⟩
    ·simp only [aq_.l2, ei]; exact Ev_f hj r1
    ·simp only [ag_.l1, ei]; exact Ev_f hj r2
   obtain ⟨q, q1, q2⟩ := ih (j + 1) (by omega)
   obtain ⟨m1, m2⟩ := tm_in (l.length : Int) (((j + 1 : Nat) : Int)) (by omega) (by omega)
   by_cases c1 : Int.tmod ((j + 1 : Nat) : Int) (l.length : Int) = i
   ·refine ⟨q, aK_ ?_, aK_ ?_⟩
    ·simp only [aq_.l2, ej]; exact Ev_t hj (Ev_f (by omega) (Ev_t c1 q1))
    ·simp only [ag_.l1, ej]; exact Ev_t hj (Ev_f (by omega) (Ev_t c1 q2))
   obtain ⟨t, ht⟩ := touching_some a b c d ((ab_ l j).f0) ((ab_ l j).f1) ((ab_ l (Int.tmod ((j + 1 : Nat) : Int) (l.length : Int))).f0) ((ab_ l (Int.tmod ((j + 1 : Nat) : Int) (l.length : Int))).f1)
   cases t with
   | true =>
    refine ⟨false, aK_ ?_, aK_ ?_⟩
    ·simp only [aq_.l2, ej, meet_same]; exact Ev_t hj (Ev_f (by omega) (Ev_f c1 (Ev_t (by omega) (Ev_t hj (Ev_t m1 (Ev_t m2 (Ev_b (Ev_c ht) (Ev_t (by simp) (Ev_n rfl)))))))))
    ·simp only [ag_.l1, ej]; exact Ev_t hj (Ev_f (by omega) (Ev_f c1 (Ev_t (by omega) (Ev_t hj (Ev_t m1 (Ev_t m2 (Ev_b (Ev_c ht) (Ev_t (by simp) (Ev_n rfl)))))))))
   | false =>
    refine ⟨q, aK_ ?_, aK_ ?_⟩
    ·simp only [aq_.l2, ej, meet_same]; exact Ev_t hj (Ev_f (by omega) (Ev_f c1 (Ev_t (by omega) (Ev_t hj (Ev_t m1 (Ev_t m2 (Ev_b (Ev_c ht) (Ev_f (by decide) q1))))))))
    ·simp only [ag_.l1, ej]; exact Ev_t hj (Ev_f (by omega) (Ev_f c1 (Ev_t (by omega) (Ev_t hj (Ev_t m1 (Ev_t m2 (Ev_b (Ev_c ht) (Ev_f (by decide) q2))))))))
 have go : ∀ (e i : Nat), i + e = l.length → ∃ r, Ev (fun k => aq_.l1 k l (l.length : Int) i) r ∧ Ev (fun k => ag_.l0 k l (l.length : Int) (l.length : Int) i) r := by
  intro e
  induction e with
  | zero =>
   intro i h1
   obtain ⟨s, s1, s2⟩ := area_ev l (by omega)
   refine ⟨decide (s > 0), aK_ ?_, aK_ ?_⟩
   ·simp only [aq_.l1]; exact Ev_f (by omega) (Ev_b s1 (Ev_n rfl))
   ·simp only [ag_.l0]; exact Ev_f (by omega) (Ev_b s2 (Ev_n rfl))
  | succ e ih =>
   intro i h1
   have hn := ih (i + 1) (by omega)
   have e1 : wrap64 ((i : Int) + 1) = ((i + 1 : Nat) : Int) := wr64s i (by omega)
   have e2 : wrap64 ((i : Int) + 2) = ((i + 2 : Nat) : Int) := by rw [wr64 (by omega) (by omega)]; omega
   obtain ⟨m1, m2⟩ := tm_in (l.length : Int) (((i + 1 : Nat) : Int)) (by omega) (by omega)
   obtain ⟨n1, n2⟩ := tm_in (l.length : Int) (((i + 2 : Nat) : Int)) (by omega) (by omega)
   generalize hA : ab_ l i = A
   generalize hB : ab_ l (Int.tmod ((i + 1 : Nat) : Int) (l.length : Int)) = B
   generalize hC : ab_ l (Int.tmod ((i + 2 : Nat) : Int) (l.length : Int)) = C
   have jj : ∀ t : Bool, ∃ r, Ev (fun k => aq_.j3 k l (l.length : Int) i t A.f0 A.f1 B.f0 B.f1) r ∧ Ev (fun k => ag_.j2 k l (l.length : Int) i (l.length : Int) i t A.f0 A.f1 B.f0 B.f1) r := by
    intro t
    cases t with
    | true =>
     refine ⟨false, aK_ ?_, aK_ ?_⟩
     ·simp only [aq_.j3]; exact Ev_t (by simp) (Ev_n rfl)
     ·simp only [ag_.j2]; exact Ev_t (by simp) (Ev_n rfl)
    | false =>
     obtain ⟨r, r1, r2⟩ := inner i A.f0 A.f1 B.f0 B.f1 (by omega) hn (l.length + 1 - (i + 2)) (i + 2) (by omega)
     refine ⟨r, aK_ ?_, aK_ ?_⟩
     ·simp only [aq_.j3, e2]; exact Ev_f (by decide) r1
     ·simp only [ag_.j2, e2]; exact Ev_f (by decide) r2
   have pre : ∀ (t : Bool) (fS fI : Nat → Option Bool), (∀ r, Ev (fun k => aq_.j3 k l (l.length : Int) i t A.f0 A.f1 B.f0 B.f1) r → Ev fS r) → (∀ r, Ev (fun k => ag_.j2 k l (l.length : Int) i (l.length : Int) i t A.f0 A.f1 B.f0 B.f1) r → Ev fI r) → ∃ r, Ev fS r ∧ Ev fI r := by
    intro t fS fI h1 h2
    obtain ⟨r, r1, r2⟩ := jj t
    exact ⟨r, h1 r r1, h2 r r2⟩
   by_cases c1 : (A.f0 == B.f0 && A.f1 == B.f1) = true
   ·refine pre true _ _ (fun r hr => aK_ ?_) (fun r hr => aK_ ?_)
    ·simp only [aq_.l1, e1, e2, hA, hB, hC]; exact Ev_t (by omega) (Ev_t (by omega) (Ev_t (by omega) (Ev_f (by omega) (Ev_t m1 (Ev_t m2 (Ev_t n1 (Ev_t n2 (Ev_t c1 hr))))))))
    ·simp only [ag_.l0, e1, e2, hA, hB, hC]; exact Ev_t (by omega) (Ev_t (by omega) (Ev_t (by omega) (Ev_f (by omega) (Ev_t m1 (Ev_t m2 (Ev_t n1 (Ev_t n2 (Ev_t c1 hr))))))))
   obtain ⟨t1, ht1⟩ := on_some A.f0 A.f1 B.f0 B.f1 C.f0 C.f1
   cases t1 with
   | true =>
    refine pre true _ _ (fun r hr => aK_ ?_) (fun r hr => aK_ ?_)
    ·simp only [aq_.l1, e1, e2, hA, hB, hC, on_same]; exact Ev_t (by omega) (Ev_t (by omega) (Ev_t (by omega) (Ev_f (by omega) (Ev_t m1 (Ev_t m2 (Ev_t n1 (Ev_t n2 (Ev_f c1 (Ev_b (Ev_c ht1) (Ev_t (by simp) hr))))))))))
    ·simp only [ag_.l0, e1, e2, hA, hB, hC]; exact Ev_t (by omega) (Ev_t (by omega) (Ev_t (by omega) (Ev_f (by omega) (Ev_t m1 (Ev_t m2 (Ev_t n1 (Ev_t n2 (Ev_f c1 (Ev_b (Ev_c ht1) (Ev_t (by simp) hr))))))))))
   | false =>
    obtain ⟨t2, ht2⟩ := on_some B.f0 B.f1 C.f0 C.f1 A.f0 A.f1
    refine pre t2 _ _ (fun r hr => aK_ ?_) (fun r hr => aK_ ?_)
    ·simp only [aq_.l1, e1, e2, hA, hB, hC, on_same]; exact Ev_t (by omega) (Ev_t (by omega) (Ev_t (by omega) (Ev_f (by omega) (Ev_t m1 (Ev_t m2 (Ev_t n1 (Ev_t n2 (Ev_f c1 (Ev_b (Ev_c ht1) (Ev_f (by decide) (Ev_b (Ev_c ht2) hr)))))))))))
    ·simp only [ag_.l0, e1, e2, hA, hB, hC]; exact Ev_t (by omega) (Ev_t (by omega) (Ev_t (by omega) (Ev_f (by omega) (Ev_t m1 (Ev_t m2 (Ev_t n1 (Ev_t n2 (Ev_f c1 (Ev_b (Ev_c ht1) (Ev_f (by decide) (Ev_b (Ev_c ht2) hr)))))))))))
 exact go l.length 0 (by omega)
theorem poly_ev (l : List Pnt) (hl : (l.length : Int) ≤ 1048576) : ∃ b, Ev (fun k => aq_.f k l) b ∧ Ev (fun k => ag_.f k l) b ∧ (b = true → 3 ≤ l.length ∧ l.length ≤ 24) := by
 by_cases h3 : (l.length : Int) < 3
 ·refine ⟨false, ?_, ?_, fun h => by cases h⟩
  ·simp only [aq_.f]; exact Ev_t h3 (aK_ (by simp only [aq_.j0]; exact Ev_t (by simp) (Ev_n rfl)))
  ·simp only [ag_.f]; exact Ev_t h3 (aK_ (by simp only [ag_.j0]; exact Ev_t (by simp) (Ev_n rfl)))
 by_cases h24 : (l.length : Int) > 24
 ·refine ⟨false, ?_, ?_, fun h => by cases h⟩
  ·simp only [aq_.f]; exact Ev_f h3 (aK_ (by simp only [aq_.j0]; exact Ev_t (by simpa using h24) (Ev_n rfl)))
  ·simp only [ag_.f]; exact Ev_f h3 (Ev_t h24 (aK_ (by simp only [ag_.j0]; exact Ev_t (by simp) (Ev_n rfl))))
 obtain ⟨b, b1, b2⟩ := edges_ev l (by omega) (by omega)
 have go : ∀ (e i : Nat), i + e = l.length → ∃ t, Ev (fun k => bb_.l0 k l (l.length : Int) i) t ∧ (t = true → Ev (fun k => aq_.l0 k l (l.length : Int) i) b) ∧ (t = false → Ev (fun k => aq_.l0 k l (l.length : Int) i) false) := by
  intro e
  induction e with
  | zero =>
   intro i h1
   refine ⟨true, aK_ ?_, fun _ => aK_ ?_, fun h => by cases h⟩
   ·simp only [bb_.l0]; exact Ev_f (by omega) (Ev_n rfl)
   ·simp only [aq_.l0]; exact Ev_f (by omega) b1
  | succ e ih =>
   intro i h1
   have e1 : wrap64 ((i : Int) + 1) = ((i + 1 : Nat) : Int) := wr64s i (by omega)
   obtain ⟨t, t1, t2, t3⟩ := ih (i + 1) (by omega)
   cases hp : okP ⟨(ab_ l i).f0, (ab_ l i).f1⟩ with
   | false =>
    refine ⟨false, aK_ ?_, fun h => (by cases h), fun _ => aK_ ?_⟩
    ·simp only [bb_.l0, okI, hp]; exact Ev_t (by omega) (Ev_t (by omega) (Ev_t (by omega) (Ev_s (Ev_f (by decide) (Ev_n rfl)))))
    ·simp only [aq_.l0, okS, hp]; exact Ev_t (by omega) (Ev_t (by omega) (Ev_t (by omega) (Ev_s (Ev_f (by decide) (Ev_n rfl)))))
   | true =>
    refine ⟨t, aK_ ?_, fun h => aK_ ?_, fun h => aK_ ?_⟩
    ·simp only [bb_.l0, okI, hp, e1]; exact Ev_t (by omega) (Ev_t (by omega) (Ev_t (by omega) (Ev_s (Ev_t (by simp) t1))))
    ·simp only [aq_.l0, okS, hp, e1]; exact Ev_t (by omega) (Ev_t (by omega) (Ev_t (by omega) (Ev_s (Ev_t (by simp) (t2 h)))))
    ·simp only [aq_.l0, okS, hp, e1]; exact Ev_t (by omega) (Ev_t (by omega) (Ev_t (by omega) (Ev_s (Ev_t (by simp) (t3 h)))))
 obtain ⟨t, t1, t2, t3⟩ := go l.length 0 (by omega)
 have t1' : Ev (fun k => bb_.f k l) t := by simp only [bb_.f]; exact t1
 cases t with
 | false =>
  refine ⟨false, ?_, ?_, fun h => by cases h⟩
  ·simp only [aq_.f]; exact Ev_f h3 (aK_ (by simp only [aq_.j0]; exact Ev_f (by simpa using h24) (t3 rfl)))
  ·simp only [ag_.f]; exact Ev_f h3 (Ev_f h24 (Ev_b t1' (aK_ (by simp only [ag_.j0]; exact Ev_t (by simp) (Ev_n rfl)))))
 | true =>
  refine ⟨b, ?_, ?_, fun _ => by omega⟩
  ·simp only [aq_.f]; exact Ev_f h3 (aK_ (by simp only [aq_.j0]; exact Ev_f (by simpa using h24) (t2 rfl)))
  ·simp only [ag_.f]; exact Ev_f h3 (Ev_f h24 (Ev_b t1' (aK_ (by simp only [ag_.j0]; exact Ev_f (by decide) b2))))
theorem toList_len (x : ByteArray) : x.toList.length = x.size := by
 rw [Go.ByteArray.toList_eq x, Array.length_toList]; rfl
theorem name_round (k : Nat) (x : ByteArray) (i : Int) : aJ_.l0 k x i = aI_.l0 k x i := by
 induction k generalizing i with
 | zero => rfl
 | succ k ih =>
  simp only [aJ_.l0, aI_.l0, ih, bZ_.f, cU_.f]
  by_cases h1 : i < (x.size : Int)
  rotate_left
  ·rw [if_neg h1, if_neg h1]
  rw [if_pos h1, if_pos h1]
  by_cases h2 : 0 ≤ i
  rotate_left
  ·rw [if_neg h2, if_neg h2]
  rw [if_pos h2, if_pos h2]
  generalize bt x i = c
  by_cases h3 : c < 97
  rotate_left
  ·rw [if_neg h3, if_pos (show c ≥ 97 by omega)]
   by_cases h4 : c > 122
   rotate_left
   ·rw [if_neg h4]; simp [show c ≤ 122 by omega]
   simp [h4, show ¬ c < 48 by omega, show c > 57 by omega, show ¬ c ≤ 122 by omega, show ¬ c ≤ 57 by omega]
  rw [if_pos h3, if_neg (by omega)]
  by_cases h4 : c < 48
  rotate_left
  ·rw [if_neg h4, if_pos (by omega)]
   by_cases h5 : c > 57
   rotate_left
   ·rw [if_neg h5]; simp [show c ≤ 57 by omega]
   rw [if_pos h5]; simp [show ¬ c ≤ 57 by omega]
  rw [if_pos h4, if_neg (by omega)]; simp
theorem name_same (k : Nat) (x : ByteArray) : aJ_.f k x = aI_.f k x := by
 have hj : ∀ b, aJ_.j0 k x b = aI_.j0 k x b := by
  intro b
  cases k with
  | zero => rfl
  | succ k => simp only [aJ_.j0, aI_.j0, name_round]
 unfold aJ_.f aI_.f bZ_.f
 simp only [hj]
 by_cases h0 : x.toList = []
 rotate_left
 ·have : x.size ≠ 0 := by
   intro e; apply h0; apply List.eq_nil_of_length_eq_zero; rw [toList_len, e]
  rw [if_neg h0, if_neg (show ¬ (x.size : Int) < 1 by omega)]
  by_cases h1 : (x.size : Int) > 10
  rotate_left
  ·rw [if_neg h1, if_neg h1, if_pos (show 0 < (x.size : Int) by omega), if_pos (show 0 < (x.size : Int) by omega)]
   generalize bt x 0 = c
   by_cases h3 : c < 97
   rotate_left
   ·rw [if_neg h3, if_pos (show c ≥ 97 by omega)]
    simp only [Option.bind_some]
    congr 1
    by_cases h4 : c > 122
    rotate_left
    ·simp [h4, show c ≤ 122 by omega]
    simp [h4, show ¬ c ≤ 122 by omega]
   rw [if_pos h3, if_neg (show ¬ c ≥ 97 by omega)]; rfl
  rw [if_pos h1, if_pos h1]
 have : x.size = 0 := by rw [← toList_len, h0]; rfl
 rw [if_pos h0, if_pos (by omega)]
theorem name_ev (x : ByteArray) : ∃ b, ∀ k, 12 < k → aI_.f k x = some b := by
 have go : ∀ (d : Nat) (i : Int), 0 ≤ i → i + d = x.size → (x.size : Int) ≤ 10 → ∃ b, ∀ k, d < k → aI_.l0 k x i = some b := by
  intro d
  induction d with
  | zero =>
   intro i h0 h1 _
   refine ⟨true, fun k hk => ?_⟩
   obtain ⟨k, rfl⟩ : ∃ m, k = m + 1 := ⟨k - 1, by omega⟩
   simp only [aI_.l0]
   rw [if_neg (by omega)]
  | succ d ih =>
   intro i h0 h1 h2
   obtain ⟨b, hb⟩ := ih (i + 1) (by omega) (by omega) h2
   by_cases h3 : bt x i < 97
   rotate_left
   ·by_cases h4 : bt x i > 122
    rotate_left
    ·refine ⟨b, fun k hk => ?_⟩
     obtain ⟨k, rfl⟩ : ∃ m, k = m + 1 := ⟨k - 1, by omega⟩
     simp only [aI_.l0]
     rw [if_pos (by omega), if_pos h0, if_neg h3, if_neg h4, w64 (by omega) (by omega), hb k (by omega)]
    refine ⟨false, fun k hk => ?_⟩
    obtain ⟨k, rfl⟩ : ∃ m, k = m + 1 := ⟨k - 1, by omega⟩
    simp only [aI_.l0]
    rw [if_pos (by omega), if_pos h0, if_neg h3, if_pos h4, if_neg (by omega), if_pos (by omega)]
   by_cases h4 : bt x i < 48
   rotate_left
   ·by_cases h5 : bt x i > 57
    rotate_left
    ·refine ⟨b, fun k hk => ?_⟩
     obtain ⟨k, rfl⟩ : ∃ m, k = m + 1 := ⟨k - 1, by omega⟩
     simp only [aI_.l0]
     rw [if_pos (by omega), if_pos h0, if_pos h3, if_neg h4, if_neg h5, w64 (by omega) (by omega), hb k (by omega)]
    refine ⟨false, fun k hk => ?_⟩
    obtain ⟨k, rfl⟩ : ∃ m, k = m + 1 := ⟨k - 1, by omega⟩
    simp only [aI_.l0]
    rw [if_pos (by omega), if_pos h0, if_pos h3, if_neg h4, if_pos h5]
   refine ⟨false, fun k hk => ?_⟩
   obtain ⟨k, rfl⟩ : ∃ m, k = m + 1 := ⟨k - 1, by omega⟩
   simp only [aI_.l0]
   rw [if_pos (by omega), if_pos h0, if_pos h3, if_pos h4]
 have hj : ∀ (b : Bool), (b = false → (x.size : Int) ≤ 10) → ∃ c, ∀ k, 12 < k → aI_.j0 k x b = some c := by
  intro b hs
  cases b with
  | true =>
   refine ⟨false, fun k hk => ?_⟩
   obtain ⟨k, rfl⟩ : ∃ m, k = m + 1 := ⟨k - 1, by omega⟩
   simp only [aI_.j0, if_true]
  | false =>
   obtain ⟨c, hc⟩ := go x.size 0 (by omega) (by omega) (hs rfl)
   have := hs rfl
   refine ⟨c, fun k hk => ?_⟩
   obtain ⟨k, rfl⟩ : ∃ m, k = m + 1 := ⟨k - 1, by omega⟩
   simp only [aI_.j0]
   rw [if_neg (by decide), hc k (by omega)]
 unfold aI_.f
 by_cases h1 : (x.size : Int) < 1
 rotate_left
 ·simp only [if_neg h1]
  by_cases h2 : (x.size : Int) > 10
  rotate_left
  ·simp only [if_neg h2, if_pos (show 0 < (x.size : Int) by omega)]
   by_cases h3 : bt x 0 < 97
   rotate_left
   ·simp only [if_neg h3]; exact hj _ (fun _ => by omega)
   simp only [if_pos h3]; exact hj true (by intro h; cases h)
  simp only [if_pos h2]; exact hj true (by intro h; cases h)
 simp only [if_pos h1]; exact hj true (by intro h; cases h)
abbrev Dwg := S37
theorem rdDwg (d : Dwg) : ar_ [d] 0 = d := rfl
theorem nameQ_ev (x : ByteArray) : ∃ b, Ev (fun k => aI_.f k x) b ∧ Ev (fun k => aJ_.f k x) b := by
 obtain ⟨b, hb⟩ := name_ev x
 exact ⟨b, ⟨13, fun k hk => hb k (by omega)⟩, ⟨13, fun k hk => (name_same k x).trans (hb k (by omega))⟩⟩
theorem bQ_ {a b c : Int} (h : b ≤ a ∧ a ≤ c) : am_.f a b c = some true := by rw [within_f]; simp [h.1, h.2]
theorem du_ {a b c : Int} (h : ¬ (b ≤ a ∧ a ≤ c)) : am_.f a b c = some false := by
 rw [within_f]
 congr 1
 rw [← Bool.not_eq_true]
 simp only [Bool.and_eq_true, decide_eq_true_eq]
 exact h
theorem ring_ev (d : Dwg) (hd : (d.f2.length : Int) ≤ 1048576) (ring : List Int) (hr : (ring.length : Int) ≤ 1048576) : ∃ v : List Pnt × Bool, Ev (fun k => aG_.f k [d] ring) v ∧ Ev (fun k => aQ_.f k d.f2 ring) v ∧ v.1.length ≤ ring.length := by
 have go : ∀ (e i : Nat) (out : List Pnt), i + e = ring.length → out.length = i → ∃ v : List Pnt × Bool, Ev (fun k => aG_.l0 k [d] ring out i) v ∧ Ev (fun k => aQ_.l0 k d.f2 out ring (ring.length : Int) i) v ∧ v.1.length ≤ ring.length := by
  intro e
  induction e with
  | zero =>
   intro i out h1 h2
   refine ⟨(out, true), aK_ ?_, aK_ ?_, by show out.length ≤ _; omega⟩
   ·simp only [aG_.l0]; exact Ev_f (by omega) (Ev_n rfl)
   ·simp only [aQ_.l0]; exact Ev_f (by omega) (Ev_n rfl)
  | succ e ih =>
   intro i out h1 h2
   have e1 : wrap64 ((i : Int) + 1) = ((i + 1 : Nat) : Int) := wr64s i (by omega)
   have e2 : wrap64 ((d.f2.length : Int) - 1) = (d.f2.length : Int) - 1 := wr64 (by omega) (by omega)
   by_cases hw : 0 ≤ rd ring i ∧ rd ring i ≤ (d.f2.length : Int) - 1
   rotate_left
   ·refine ⟨([], false), aK_ ?_, aK_ ?_, by simp⟩
    ·simp only [aG_.l0, e1, e2, dr_, du_ hw, rdDwg]; exact Ev_t (by omega) (Ev_t (by omega) (Ev_t (by simp) (Ev_s (Ev_f (by simp) (Ev_n rfl)))))
    ·simp only [aQ_.l0, e1, e2, du_ hw]; exact Ev_t (by omega) (Ev_t (by omega) (Ev_t (by omega) (Ev_s (Ev_f (by simp) (Ev_n rfl)))))
   obtain ⟨v, v1, v2, v3⟩ := ih (i + 1) (out ++ [(⟨(ab_ d.f2 (rd ring i)).f0, (ab_ d.f2 (rd ring i)).f1⟩ : Pnt)]) (by omega) (by simp [h2])
   refine ⟨v, aK_ ?_, aK_ ?_, v3⟩
   ·simp only [aG_.l0, e1, e2, dr_, bQ_ hw, rdDwg]; exact Ev_t (by omega) (Ev_t (by omega) (Ev_t (by simp) (Ev_s (Ev_t (by simp) (Ev_t (by omega) (Ev_t (by omega) (Ev_t (by omega) v1)))))))
   ·simp only [aQ_.l0, e1, e2, bQ_ hw]; exact Ev_t (by omega) (Ev_t (by omega) (Ev_t (by omega) (Ev_s (Ev_t (by simp) (Ev_t (by omega) (Ev_t (by omega) (Ev_t (by omega) v2)))))))
 obtain ⟨v, v1, v2, v3⟩ := go ring.length 0 [] (by omega) rfl
 exact ⟨v, by simp only [aG_.f]; exact v1, by simp only [aQ_.f]; exact v2, v3⟩
theorem points_ev (d : Dwg) (hp : d.f2.length ≤ 48) (n : Option Bool) (b0 : Bool) (g : Nat → Option Bool) (hg : Ev g b0) :
  ∃ b, Ev (fun k => au_.l0 k [d] 0) b ∧ ((b = true → Ev (fun k => af_.l1 k d.f3 (d.f3.length : Int) 0 d.f0 d.f1 d.f2 d.f3) b0) → Ev (fun k => af_.l0 k d.f2 (d.f2.length : Int) 0 d.f0 d.f1 d.f2 d.f3) (b && b0)) := by
 have go : ∀ (e i : Nat), i + e = d.f2.length → ∃ b, Ev (fun k => au_.l0 k [d] i) b ∧ ((b = true → Ev (fun k => af_.l1 k d.f3 (d.f3.length : Int) 0 d.f0 d.f1 d.f2 d.f3) b0) → Ev (fun k => af_.l0 k d.f2 (d.f2.length : Int) i d.f0 d.f1 d.f2 d.f3) (b && b0)) := by
  intro e
  induction e with
  | zero =>
   intro i h1
   refine ⟨true, aK_ ?_, fun h => aK_ ?_⟩
   ·simp only [au_.l0, rdDwg]; exact Ev_t (by simp) (Ev_f (by omega) (Ev_n rfl))
   ·simp only [af_.l0]; exact Ev_f (by omega) (by simpa using h rfl)
  | succ e ih =>
   intro i h1
   have e1 : wrap64 ((i : Int) + 1) = ((i + 1 : Nat) : Int) := wr64s i (by omega)
   obtain ⟨b, b1, b2⟩ := ih (i + 1) (by omega)
   generalize hA : ab_ d.f2 i = A
   by_cases hx : 0 ≤ A.f0 ∧ A.f0 ≤ d.f0
   case neg =>
    refine ⟨false, aK_ ?_, fun h => aK_ ?_⟩
    ·simp only [au_.l0, rdDwg, hA, dr_, du_ hx]; exact Ev_t (by simp) (Ev_t (by omega) (Ev_t (by omega) (Ev_s (Ev_f (by simp) (aK_ (by simp only [au_.j1]; exact Ev_t (by simp) (Ev_n rfl)))))))
    ·simp only [af_.l0, hA, du_ hx]; exact Ev_t (by omega) (Ev_t (by omega) (Ev_t (by omega) (Ev_s (Ev_f (by simp) (Ev_n rfl)))))
   by_cases hy : 0 ≤ A.f1 ∧ A.f1 ≤ d.f1
   case neg =>
    refine ⟨false, aK_ ?_, fun h => aK_ ?_⟩
    ·simp only [au_.l0, rdDwg, hA, dr_, bQ_ hx, du_ hy]; exact Ev_t (by simp) (Ev_t (by omega) (Ev_t (by omega) (Ev_s (Ev_t (by simp) (Ev_s (aK_ (by simp only [au_.j1]; exact Ev_t (by simp) (Ev_n rfl))))))))
    ·simp only [af_.l0, hA, bQ_ hx, du_ hy]; exact Ev_t (by omega) (Ev_t (by omega) (Ev_t (by omega) (Ev_s (Ev_t (by simp) (Ev_s (Ev_f (by simp) (Ev_n rfl)))))))
   have tl : (((d.f2.take (i : Int).toNat)).length : Int) = i := by simp; omega
   have tr : ∀ j : Nat, j < i → ab_ (d.f2.take (i : Int).toNat) j = ab_ d.f2 j := by
    intro j hj
    unfold ab_
    rw [getD_in _ _ j (by simp; omega), getD_in _ _ j (by omega), List.getElem_take]
   obtain ⟨T, hT⟩ : ∃ T : List Pnt, T = d.f2.take (i : Int).toNat := ⟨_, rfl⟩
   rw [← hT] at tl tr
   have inner : ∀ (m j : Nat), j + m = i → ∃ t : Int, Ev (fun k => bw_.l0 k T (T.length : Int) j A.f0 A.f1) t ∧ ((0 ≤ t → Ev (fun k => au_.l1 k [d] i j) false) ∧ (t < 0 → Ev (fun k => au_.l1 k [d] i j) b)) := by
    intro m
    induction m with
    | zero =>
     intro j h2
     refine ⟨-1, aK_ ?_, fun h => absurd h (by decide), fun _ => aK_ ?_⟩
     ·simp only [bw_.l0]; exact Ev_f (by omega) (Ev_n rfl)
     ·simp only [au_.l1, e1]; exact Ev_f (by omega) b1
    | succ m ihm =>
     intro j h2
     have ej : wrap64 ((j : Int) + 1) = ((j + 1 : Nat) : Int) := wr64s j (by omega)
     obtain ⟨t, t1, t2, t3⟩ := ihm (j + 1) (by omega)
     have w1 : (j : Int) < (T.length : Int) := by rw [tl]; exact Int.ofNat_lt.mpr (by omega)
     have w2 : (0 : Int) ≤ (j : Int) := Int.natCast_nonneg j
     have w3 : (j : Int) < (i : Int) := Int.ofNat_lt.mpr (by omega)
     have w4 : (0 : Int) ≤ (i : Int) := Int.natCast_nonneg i
     have w5 : (i : Int) < (d.f2.length : Int) := Int.ofNat_lt.mpr (by omega)
     have w6 : (j : Int) < (d.f2.length : Int) := Int.ofNat_lt.mpr (by omega)
     by_cases hc : (A.f0 == (ab_ d.f2 j).f0 && A.f1 == (ab_ d.f2 j).f1) = true
     rotate_left
     ·refine ⟨t, aK_ ?_, fun h => aK_ ?_, fun h => aK_ ?_⟩
      ·simp only [bw_.l0, tr j (by omega), ej]; exact Ev_t w1 (Ev_t w2 (Ev_t w1 (Ev_f hc t1)))
      ·simp only [au_.l1, rdDwg, hA, ej]; exact Ev_t w3 (Ev_t (by simp) (Ev_t w4 (Ev_t w5 (Ev_t w2 (Ev_t w6 (Ev_f hc (t2 h)))))))
      ·simp only [au_.l1, rdDwg, hA, ej]; exact Ev_t w3 (Ev_t (by simp) (Ev_t w4 (Ev_t w5 (Ev_t w2 (Ev_t w6 (Ev_f hc (t3 h)))))))
     refine ⟨j, aK_ ?_, fun _ => aK_ ?_, fun h => absurd h (Int.not_lt.mpr (Int.natCast_nonneg j))⟩
     ·simp only [bw_.l0, tr j (by omega)]; exact Ev_t w1 (Ev_t w2 (Ev_t w1 (Ev_t hc (Ev_n rfl))))
     ·simp only [au_.l1, rdDwg, hA]; exact Ev_t w3 (Ev_t (by simp) (Ev_t w4 (Ev_t w5 (Ev_t w2 (Ev_t w6 (Ev_t hc (Ev_n rfl)))))))
   obtain ⟨t, t1, t2, t3⟩ := inner i 0 (by omega)
   have t1' : Ev (fun k => ci_.f k T A.f0 A.f1) (decide (t ≥ 0)) := by
    simp only [ci_.f, bw_.f]; exact Ev_b t1 (Ev_n rfl)
   rw [hT] at t1'
   by_cases ht : t ≥ 0
   rotate_left
   ·refine ⟨b, aK_ ?_, fun h => aK_ ?_⟩
    ·simp only [au_.l0, rdDwg, hA, dr_, bQ_ hx, bQ_ hy]; exact Ev_t (by simp) (Ev_t (by omega) (Ev_t (by omega) (Ev_s (Ev_t (by simp) (Ev_s (aK_ (by simp only [au_.j1]; exact Ev_f (by simp) (t3 (by omega)))))))))
    ·simp only [af_.l0, hA, bQ_ hx, bQ_ hy, e1]; exact Ev_t (by omega) (Ev_t (by omega) (Ev_t (by omega) (Ev_s (Ev_t (by simp) (Ev_s (Ev_t (by simp) (Ev_t (by omega) (Ev_b t1' (Ev_f (by simpa using ht) (b2 h))))))))))
   refine ⟨false, aK_ ?_, fun h => aK_ ?_⟩
   ·simp only [au_.l0, rdDwg, hA, dr_, bQ_ hx, bQ_ hy]; exact Ev_t (by simp) (Ev_t (by omega) (Ev_t (by omega) (Ev_s (Ev_t (by simp) (Ev_s (aK_ (by simp only [au_.j1]; exact Ev_f (by simp) (t2 ht))))))))
   ·simp only [af_.l0, hA, bQ_ hx, bQ_ hy]; exact Ev_t (by omega) (Ev_t (by omega) (Ev_t (by omega) (Ev_s (Ev_t (by simp) (Ev_s (Ev_t (by simp) (Ev_t (by omega) (Ev_b t1' (Ev_t (by simpa using ht) (Ev_n rfl))))))))))
 exact go d.f2.length 0 (by omega)
theorem faces_ev (d : Dwg) (hd : (d.f2.length : Int) ≤ 1048576) (hf : (d.f3.length : Int) ≤ 1048576) (hr : ∀ y ∈ d.f3, (y.f1.length : Int) ≤ 1048576) : ∃ b, Ev (fun k => ay_.l0 k [d] 0) b ∧ Ev (fun k => af_.l1 k d.f3 (d.f3.length : Int) 0 d.f0 d.f1 d.f2 d.f3) b := by
 have rdf : ∀ i : Nat, (h : i < d.f3.length) → aA_ d.f3 i = d.f3[i] := fun i h => by unfold aA_; exact getD_in _ _ i h
 have go : ∀ (e i : Nat), i + e = d.f3.length → ∃ b, Ev (fun k => ay_.l0 k [d] i) b ∧ Ev (fun k => af_.l1 k d.f3 (d.f3.length : Int) i d.f0 d.f1 d.f2 d.f3) b := by
  intro e
  induction e with
  | zero =>
   intro i h1
   refine ⟨true, aK_ ?_, aK_ ?_⟩
   ·simp only [ay_.l0, rdDwg]; exact Ev_t (by simp) (Ev_f (by omega) (Ev_n rfl))
   ·simp only [af_.l1]; exact Ev_f (by omega) (Ev_n rfl)
  | succ e ih =>
   intro i h1
   have e1 : wrap64 ((i : Int) + 1) = ((i + 1 : Nat) : Int) := wr64s i (by omega)
   obtain ⟨b, b1, b2⟩ := ih (i + 1) (by omega)
   have hi : i < d.f3.length := by omega
   obtain ⟨v, v1, v2, v3⟩ := ring_ev d hd d.f3[i].f1 (hr _ (List.getElem_mem _))
   obtain ⟨q, q1, q2, _⟩ := poly_ev v.1 (by have := hr _ (List.getElem_mem hi); omega)
   obtain ⟨n, n1, n2⟩ := nameQ_ev d.f3[i].f0
   have jj : ∀ t : Bool, ∃ r, Ev (fun k => ay_.j2 k [d] i t) r ∧ Ev (fun k => af_.j3 k d.f3 (d.f3.length : Int) i t d.f0 d.f1 d.f2 d.f3 d.f3[i].f0 d.f3[i].f1) r := by
    intro t
    cases t with
    | true =>
     refine ⟨false, aK_ ?_, aK_ ?_⟩
     ·simp only [ay_.j2]; exact Ev_t (by simp) (Ev_n rfl)
     ·simp only [af_.j3]; exact Ev_t (by simp) (Ev_n rfl)
    | false =>
     cases hv : v.2 with
     | false =>
      refine ⟨false, aK_ ?_, aK_ ?_⟩
      ·simp only [ay_.j2, rdDwg, rdf i hi]; exact Ev_f (by simp) (Ev_t (by simp) (Ev_t (by omega) (Ev_t (by omega) (Ev_b v1 (Ev_f (by rw [hv]; decide) (Ev_n rfl))))))
      ·simp only [af_.j3]; exact Ev_f (by simp) (Ev_b v2 (Ev_f (by rw [hv]; decide) (Ev_n rfl)))
     | true =>
      cases q with
      | false =>
       refine ⟨false, aK_ ?_, aK_ ?_⟩
       ·simp only [ay_.j2, rdDwg, rdf i hi]; exact Ev_f (by simp) (Ev_t (by simp) (Ev_t (by omega) (Ev_t (by omega) (Ev_b v1 (Ev_t hv (Ev_b q1 (Ev_f (by decide) (Ev_n rfl))))))))
       ·simp only [af_.j3]; exact Ev_f (by simp) (Ev_b v2 (Ev_t hv (Ev_b q2 (Ev_f (by decide) (Ev_n rfl)))))
      | true =>
       refine ⟨b, aK_ ?_, aK_ ?_⟩
       ·simp only [ay_.j2, rdDwg, rdf i hi, e1]; exact Ev_f (by simp) (Ev_t (by simp) (Ev_t (by omega) (Ev_t (by omega) (Ev_b v1 (Ev_t hv (Ev_b q1 (Ev_t rfl b1)))))))
       ·simp only [af_.j3, e1]; exact Ev_f (by simp) (Ev_b v2 (Ev_t hv (Ev_b q2 (Ev_t rfl b2))))
   have pre : ∀ (t : Bool) (fS fI : Nat → Option Bool), (∀ r, Ev (fun k => ay_.j2 k [d] i t) r → Ev fS r) → (∀ r, Ev (fun k => af_.j3 k d.f3 (d.f3.length : Int) i t d.f0 d.f1 d.f2 d.f3 d.f3[i].f0 d.f3[i].f1) r → Ev fI r) → ∃ r, Ev fS r ∧ Ev fI r := by
    intro t fS fI h1 h2
    obtain ⟨r, r1, r2⟩ := jj t
    exact ⟨r, h1 r r1, h2 r r2⟩
   cases n with
   | false =>
    refine pre true _ _ (fun r hr => aK_ ?_) (fun r hr => aK_ ?_)
    ·simp only [ay_.l0, rdDwg, rdf i hi]; exact Ev_t (by simp) (Ev_t (by omega) (Ev_t (by omega) (Ev_b n2 (Ev_f (by decide) hr))))
    ·simp only [af_.l1, rdf i hi]; exact Ev_t (by omega) (Ev_t (by omega) (Ev_t (by omega) (Ev_b n1 (Ev_f (by decide) hr))))
   | true =>
    by_cases h0 : i = 0
    rotate_left
    ·have em : wrap64 ((i : Int) - 1) = ((i - 1 : Nat) : Int) := by rw [wr64 (by omega) (by omega)]; omega
     refine pre (!(Op.bytesLess ((d.f3[i - 1]'(by omega)).f0.toList) (d.f3[i].f0.toList))) _ _ (fun r hr => aK_ ?_) (fun r hr => aK_ ?_)
     ·simp only [ay_.l0, rdDwg, rdf i hi, em, rdf (i - 1) (by omega)]; exact Ev_t (by simp) (Ev_t (by omega) (Ev_t (by omega) (Ev_b n2 (Ev_t rfl (Ev_t (by omega) (Ev_t (by omega) (Ev_t (by omega) hr)))))))
     ·simp only [af_.l1, rdf i hi, em, rdf (i - 1) (by omega)]; exact Ev_t (by omega) (Ev_t (by omega) (Ev_t (by omega) (Ev_b n1 (Ev_t rfl (Ev_t (by omega) (Ev_t (by omega) (Ev_t (by omega) hr)))))))
    refine pre false _ _ (fun r hr => aK_ ?_) (fun r hr => aK_ ?_)
    ·simp only [ay_.l0, rdDwg, rdf i hi]; exact Ev_t (by simp) (Ev_t (by omega) (Ev_t (by omega) (Ev_b n2 (Ev_t rfl (Ev_f (by omega) hr)))))
    ·simp only [af_.l1, rdf i hi]; exact Ev_t (by omega) (Ev_t (by omega) (Ev_t (by omega) (Ev_b n1 (Ev_t rfl (Ev_f (by omega) hr)))))
 exact go d.f3.length 0 (by omega)
def Dsm (d : Dwg) : Prop := (d.f2.length : Int) ≤ 1048576 ∧ (d.f3.length : Int) ≤ 1048576 ∧ ∀ y ∈ d.f3, (y.f1.length : Int) ≤ 1048576
theorem drawing_ev (d : Dwg) (h : Dsm d) : ∃ b, Ev (fun k => ay_.f k [d]) b ∧ Ev (fun k => af_.f k d.f0 d.f1 d.f2 d.f3) b ∧ (b = true → d.f2.length ≤ 48 ∧ d.f3.length ≤ 24) := by
 have jS : Ev (fun k => ay_.j0 k [d] true) false := aK_ (by simp only [ay_.j0]; exact Ev_t (by simp) (Ev_n rfl))
 have jI : Ev (fun k => af_.j0 k true d.f0 d.f1 d.f2 d.f3) false := aK_ (by simp only [af_.j0]; exact Ev_t (by simp) (Ev_n rfl))
 by_cases hx : 10 ≤ d.f0 ∧ d.f0 ≤ 20000
 case neg =>
  refine ⟨false, ?_, ?_, fun h => by cases h⟩
  ·simp only [ay_.f, rdDwg, dr_, du_ hx]; exact Ev_t (by simp) (Ev_s (Ev_f (by simp) jS))
  ·simp only [af_.f, du_ hx]; exact Ev_s (Ev_f (by simp) jI)
 by_cases hy : 10 ≤ d.f1 ∧ d.f1 ≤ 20000
 case neg =>
  refine ⟨false, ?_, ?_, fun h => by cases h⟩
  ·simp only [ay_.f, rdDwg, dr_, bQ_ hx, du_ hy]; exact Ev_t (by simp) (Ev_s (Ev_t (by simp) (Ev_s (Ev_f (by simp) jS))))
  ·simp only [af_.f, bQ_ hx, du_ hy]; exact Ev_s (Ev_t (by simp) (Ev_s (Ev_f (by simp) jI)))
 obtain ⟨f, f1, f2⟩ := faces_ev d h.1 h.2.1 h.2.2
 by_cases hp : (d.f2.length : Int) > 48
 ·refine ⟨false, ?_, ?_, fun h => by cases h⟩
  ·have pS : Ev (fun k => au_.f k [d]) false := by simp only [au_.f, rdDwg]; exact Ev_t (by simp) (Ev_t hp (Ev_n rfl))
   simp only [ay_.f, rdDwg, dr_, bQ_ hx, bQ_ hy]; exact Ev_t (by simp) (Ev_s (Ev_t (by simp) (Ev_s (Ev_t (by simp) (Ev_b pS (Ev_f (by decide) jS))))))
  ·simp only [af_.f, bQ_ hx, bQ_ hy]; exact Ev_s (Ev_t (by simp) (Ev_s (Ev_t (by simp) (Ev_t hp jI))))
 obtain ⟨p, p1, p2⟩ := points_ev d (by omega) none f _ f2
 have pS : Ev (fun k => au_.f k [d]) p := by simp only [au_.f, rdDwg]; exact Ev_t (by simp) (Ev_f hp p1)
 have pI := p2 (fun _ => f2)
 by_cases hc : (d.f3.length : Int) > 24
 rotate_left
 ·refine ⟨p && f, ?_, ?_, fun _ => by omega⟩
  ·simp only [ay_.f, rdDwg, dr_, bQ_ hx, bQ_ hy]
   refine Ev_t (by simp) (Ev_s (Ev_t (by simp) (Ev_s (Ev_t (by simp) (Ev_b pS ?_)))))
   cases p
   ·exact Ev_f (by decide) jS
   ·refine Ev_t rfl ?_
    show Ev (fun k => ay_.j0 k [d] (decide ((d.f3.length : Int) > 24))) (true && f)
    rw [decide_eq_false hc]
    exact aK_ (by simp only [ay_.j0]; exact Ev_f (by simp) f1)
  ·simp only [af_.f, bQ_ hx, bQ_ hy]
   refine Ev_s (Ev_t (by simp) (Ev_s (Ev_t (by simp) (Ev_f hp ?_))))
   rw [decide_eq_false hc]
   exact aK_ (by simp only [af_.j0]; exact Ev_f (by simp) pI)
 refine ⟨false, ?_, ?_, fun h => by cases h⟩
 ·have jS' : Ev (fun k => ay_.j0 k [d] (decide ((d.f3.length : Int) > 24))) false := by rw [decide_eq_true hc]; exact jS
  simp only [ay_.f, rdDwg, dr_, bQ_ hx, bQ_ hy]
  refine Ev_t (by simp) (Ev_s (Ev_t (by simp) (Ev_s (Ev_t (by simp) (Ev_b pS ?_)))))
  cases p
  ·exact Ev_f (by decide) jS
  ·exact Ev_t rfl jS'
 ·simp only [af_.f, bQ_ hx, bQ_ hy]
  refine Ev_s (Ev_t (by simp) (Ev_s (Ev_t (by simp) (Ev_f hp ?_))))
  rw [decide_eq_true hc]; exact jI
theorem polygon_ev (d : Dwg) (h : Dsm d) (i : Nat) (hi : i < d.f3.length) : ∃ p : List Pnt, Ev (fun k => cB_.f k [d] i) p ∧ Ev (fun k => bj_.f k d.f0 d.f1 d.f2 d.f3 i) p ∧ (p.length : Int) ≤ 1048576 := by
 have rdf : aA_ d.f3 i = d.f3[i] := by unfold aA_; exact getD_in _ _ i hi
 obtain ⟨v, v1, v2, v3⟩ := ring_ev d h.1 d.f3[i].f1 (h.2.2 _ (List.getElem_mem _))
 refine ⟨v.1, ?_, ?_, by have := h.2.2 _ (List.getElem_mem hi); omega⟩
 ·simp only [cB_.f, rdDwg, rdf]; exact Ev_t (by simp) (Ev_t (by omega) (Ev_t (by omega) (Ev_b v1 (Ev_n rfl))))
 ·simp only [bj_.f, rdf]; exact Ev_t (by omega) (Ev_t (by omega) (Ev_b v2 (Ev_n rfl)))
abbrev Pic := S40
abbrev Vnr := S56
abbrev Rts := S42
theorem rdPic (p : Pic) : aT_ [p] 0 = p := rfl
theorem rdRts (r : Rts) : bC_ [r] 0 = r := rfl
theorem iPrice_f (a : ByteArray) : cm_.f a = some (if 0 ≤ spi a.toList then (rd prices (spi a.toList), 0) else (0, 3)) := by
 unfold cm_.f spi
 generalize a.toList = l
 rcases sp_cases l with h | h | h | h | h | h | h | h | h | h | h
 all_goals first | (subst h; decide) | (obtain ⟨h0, h1, h2, h3, h4, h5, h6, h7, h8, h9⟩ := h; simp only [h0, h1, h2, h3, h4, h5, h6, h7, h8, h9, if_false]; decide)
def vOk (x : Vnr) : Bool := vVen x.f0.toList x.f1 x.f2
theorem veneers_ev (l : List Vnr) (hl : (l.length : Int) ≤ 1048576) : Ev (fun k => aZ_.f k l) (l.all vOk) ∧ Ev (fun k => bU_.f k l) (l.all vOk) := by
 have go : ∀ (d i : Nat), i + d = l.length → Ev (fun k => aZ_.l0 k l i) ((l.drop i).all vOk) ∧ ∃ r : Int, Ev (fun k => bi_.l0 k l (l.length : Int) i) r ∧ (!decide (r ≥ 0)) = (l.drop i).all vOk := by
  intro d
  induction d with
  | zero =>
   intro i h1
   rw [List.drop_of_length_le (by omega)]
   refine ⟨aK_ ?_, -1, aK_ ?_, by decide⟩
   ·simp only [aZ_.l0]; exact Ev_f (by omega) (Ev_n rfl)
   ·simp only [bi_.l0]; exact Ev_f (by omega) (Ev_n rfl)
  | succ d ih =>
   intro i h1
   have hi : i < l.length := by omega
   obtain ⟨q1, r, q2, q3⟩ := ih (i + 1) (by omega)
   have e1 : wrap64 ((i : Int) + 1) = ((i + 1 : Nat) : Int) := wr64s i (by omega)
   have hr : aR_ l (i : Int) = l[i] := by unfold aR_; exact getD_in l _ i hi
   have v1 : Ev (fun k => bV_.f k [l[i]]) (vOk l[i]) := ⟨12, fun k hk => l07Ok_f l[i] k hk⟩
   have v2 : bY_.f l[i].f0 l[i].f1 l[i].f2 = some (!(vOk l[i])) := by
    unfold bY_.f
    rw [iValidVeneer_f]
    rfl
   rw [List.drop_eq_getElem_cons hi, List.all_cons]
   cases hv : vOk l[i] with
   | false =>
    rw [hv] at v1 v2
    refine ⟨aK_ ?_, i, aK_ ?_, by simp⟩
    ·simp only [aZ_.l0, hr, e1]; exact Ev_t (by omega) (Ev_t (by omega) (Ev_b v1 (Ev_f (by decide) (Ev_n rfl))))
    ·simp only [bi_.l0, hr, e1]; exact Ev_t (by omega) (Ev_t (by omega) (Ev_t (by omega) (Ev_b (Ev_c v2) (Ev_t rfl (Ev_n rfl)))))
   | true =>
    rw [hv] at v1 v2
    refine ⟨aK_ ?_, r, aK_ ?_, by simpa using q3⟩
    ·simp only [aZ_.l0, hr, e1, Bool.true_and]; exact Ev_t (by omega) (Ev_t (by omega) (Ev_b v1 (Ev_t rfl q1)))
    ·simp only [bi_.l0, hr, e1]; exact Ev_t (by omega) (Ev_t (by omega) (Ev_t (by omega) (Ev_b (Ev_c v2) (Ev_f (by decide) q2))))
 obtain ⟨q1, r, q2, q3⟩ := go l.length 0 (by omega)
 rw [List.drop_zero] at q1 q3
 refine ⟨by simp only [aZ_.f]; exact q1, ?_⟩
 have q4 : Ev (fun k => cv_.f k l) (decide (r ≥ 0)) := by
  simp only [cv_.f, bi_.f]
  exact Ev_b q2 (Ev_n rfl)
 simp only [bU_.f]
 exact Ev_b q4 (Ev_n q3)
theorem pic_ev (p : Pic) (h : Dsm p.f0) (hv : (p.f1.length : Int) ≤ 1048576) : ∃ b, Ev (fun k => bK_.f k [p]) b ∧ Ev (fun k => bP_.f k p.f0.f0 p.f0.f1 p.f0.f2 p.f0.f3 p.f1) b ∧ (b = true → p.f1.length = p.f0.f3.length ∧ p.f0.f3.length ≤ 24 ∧ p.f0.f2.length ≤ 48 ∧ p.f1.all vOk = true) := by
 obtain ⟨d, d1, d2, d3⟩ := drawing_ev p.f0 h
 obtain ⟨v1, v2⟩ := veneers_ev p.f1 hv
 simp only [bK_.f, bP_.f, rdPic]
 cases d with
 | false => exact ⟨false, Ev_t (by simp) (Ev_b d1 (Ev_f (by decide) (Ev_n rfl))), Ev_b d2 (Ev_f (by decide) (Ev_n rfl)), fun h => by cases h⟩
 | true =>
  by_cases hl : (p.f1.length : Int) = (p.f0.f3.length : Int)
  rotate_left
  ·have hb : ((p.f1.length : Int) == (p.f0.f3.length : Int)) = false := by simpa using hl
   refine ⟨false, Ev_t (by simp) (Ev_b d1 (Ev_t rfl (Ev_b v1 ?_))), Ev_b d2 (Ev_t rfl (Ev_f hl (Ev_n rfl))), fun h => by cases h⟩
   cases p.f1.all vOk
   ·exact Ev_f (by decide) (Ev_n rfl)
   ·exact Ev_t rfl (Ev_n (by rw [hb]))
  have hb : ((p.f1.length : Int) == (p.f0.f3.length : Int)) = true := by simpa using hl
  cases hc : p.f1.all vOk with
  | false =>
   rw [hc] at v1 v2
   exact ⟨false, Ev_t (by simp) (Ev_b d1 (Ev_t rfl (Ev_b v1 (Ev_f (by decide) (Ev_n rfl))))), Ev_b d2 (Ev_t rfl (Ev_t hl (Ev_b v2 (Ev_n rfl)))), fun h => by cases h⟩
  | true =>
   rw [hc] at v1 v2
   exact ⟨true, Ev_t (by simp) (Ev_b d1 (Ev_t rfl (Ev_b v1 (Ev_t rfl (Ev_n (by rw [hb])))))), Ev_b d2 (Ev_t rfl (Ev_t hl (Ev_b v2 (Ev_n rfl)))), fun _ => ⟨by omega, (d3 rfl).2, (d3 rfl).1, rfl⟩⟩
def rOk (r : Rts) : Bool := (decide (0 ≤ r.f0) && decide (r.f0 ≤ 100000)) && ((decide (0 ≤ r.f1) && decide (r.f1 ≤ 1000)) && ((decide (0 ≤ r.f2) && decide (r.f2 ≤ 1000)) && ((decide (0 ≤ r.f3) && decide (r.f3 ≤ 300)) && (decide (0 ≤ r.f4) && decide (r.f4 ≤ 200)))))
theorem rates_f (r : Rts) : dh_.f [r] = some (rOk r) ∧ ca_.f r.f0 r.f1 r.f2 r.f3 r.f4 = some (rOk r) := by
 unfold dh_.f ca_.f rOk
 simp only [rdRts, dr_, within_f, Option.bind_some, List.length_cons, List.length_nil]
 rw [if_pos (by decide)]
 cases (decide (0 ≤ r.f0) && decide (r.f0 ≤ 100000)) <;> cases (decide (0 ≤ r.f1) && decide (r.f1 ≤ 1000)) <;> cases (decide (0 ≤ r.f2) && decide (r.f2 ≤ 1000)) <;> cases (decide (0 ≤ r.f3) && decide (r.f3 ≤ 300)) <;> simp
theorem prices_s : cZ_.f = some prices := rfl
theorem ask_ev (p : Pic) (r : Rts) (h : Dsm p.f0) (hv : (p.f1.length : Int) ≤ 1048576) : ∃ b, Ev (fun k => df_.f k [p] [r]) (if (b && rOk r) = true then 0 else 1) ∧ Ev (fun k => bP_.f k p.f0.f0 p.f0.f1 p.f0.f2 p.f0.f3 p.f1) b ∧ (b = true → p.f1.length = p.f0.f3.length ∧ p.f0.f3.length ≤ 24 ∧ p.f0.f2.length ≤ 48 ∧ p.f1.all vOk = true) := by
 obtain ⟨b, b1, b2, b3⟩ := pic_ev p h hv
 refine ⟨b, ?_, b2, b3⟩
 simp only [df_.f]
 refine Ev_b b1 ?_
 cases b with
 | false => exact Ev_f (by decide) (Ev_n rfl)
 | true =>
  refine Ev_t rfl (Ev_b (Ev_c (rates_f r).1) ?_)
  cases rOk r
  ·exact Ev_f (by decide) (Ev_n rfl)
  ·exact Ev_t rfl (Ev_n rfl)
theorem mat_ev (p : Pic) (r : Rts) (h : Dsm p.f0) (hl : p.f1.length = p.f0.f3.length) (h24 : p.f0.f3.length ≤ 24) (hv : p.f1.all vOk = true) : ∃ m, Ev (fun k => aP_.f k [p] [r]) m ∧ Ev (fun k => az_.l0 k 0 p.f1 (p.f1.length : Int) 0 p.f0.f0 p.f0.f1 p.f0.f2 p.f0.f3 p.f1 r.f0 r.f1 r.f2 r.f3 r.f4) (m, 0) := by
 have go : ∀ (d i : Nat) (s : Int), i + d = p.f1.length → ∃ m, Ev (fun k => aP_.l0 k [p] [r] s i) m ∧ Ev (fun k => az_.l0 k s p.f1 (p.f1.length : Int) i p.f0.f0 p.f0.f1 p.f0.f2 p.f0.f3 p.f1 r.f0 r.f1 r.f2 r.f3 r.f4) (m, 0) := by
  intro d
  induction d with
  | zero =>
   intro i s h1
   refine ⟨wrap64 (Int.tdiv (wrap64 ((wrap64 (s + 200000000)) - 1)) 200000000), aK_ ?_, aK_ ?_⟩
   ·simp only [aP_.l0, rdPic, spec_l28Up.f]; exact Ev_t (by simp) (Ev_f (by omega) (Ev_b (Ev_c (if_neg (by decide))) (Ev_n rfl)))
   ·simp only [az_.l0, impl_upDiv.f]; exact Ev_f (by omega) (Ev_b (Ev_c (if_neg (by decide))) (Ev_n rfl))
  | succ d ih =>
   intro i s h1
   have hi : i < p.f1.length := by omega
   have e1 : wrap64 ((i : Int) + 1) = ((i + 1 : Nat) : Int) := wr64s i (by omega)
   have hr : aR_ p.f1 (i : Int) = p.f1[i] := by unfold aR_; exact getD_in p.f1 _ i hi
   obtain ⟨q, q1, q2, q3⟩ := polygon_ev p.f0 h i (by omega)
   obtain ⟨a, a1, a2⟩ := area_ev q q3
   have vo : vOk p.f1[i] = true := List.all_eq_true.1 hv _ (List.getElem_mem hi)
   have sp : 0 ≤ spi p.f1[i].f0.toList := by
    unfold vOk vVen at vo
    simp only [Bool.and_eq_true, decide_eq_true_eq] at vo
    exact vo.1
   have sr := spi_range p.f1[i].f0.toList
   have f1 : Ev (fun k => bB_.f k p.f1[i].f0) (spi p.f1[i].f0.toList) := ⟨12, fun k hk => l07Find_f _ k hk⟩
   have f2 := iPrice_f p.f1[i].f0
   rw [if_pos sp] at f2
   have pl : ((prices.length : Nat) : Int) = 10 := rfl
   obtain ⟨m, m1, m2⟩ := ih (i + 1) (wrap64 (s + (wrap64 ((wrap64 (a * rd prices (spi p.f1[i].f0.toList))) * (wrap64 (100 + r.f3)))))) (by omega)
   refine ⟨m, aK_ ?_, aK_ ?_⟩
   ·simp only [aP_.l0, rdPic, rdRts, hr, e1, prices_s]
    exact Ev_t (by simp) (Ev_t (by omega) (Ev_b q1 (Ev_b a1 (Ev_s (Ev_t (by omega) (Ev_b f1 (Ev_t sp (Ev_t (by omega) (Ev_t (by simp) m1)))))))))
   ·simp only [az_.l0, hr, e1]
    exact Ev_t (by omega) (Ev_t (by omega) (Ev_t (by omega) (Ev_b (Ev_c f2) (Ev_b q2 (Ev_b a2 m2)))))
 obtain ⟨m, m1, m2⟩ := go p.f1.length 0 0 (by omega)
 exact ⟨m, by simp only [aP_.f]; exact m1, m2⟩
theorem material_ev (p : Pic) (r : Rts) (h : Dsm p.f0) (hv : (p.f1.length : Int) ≤ 1048576) : ∃ a c, Ev (fun k => cn_.f k p.f0.f0 p.f0.f1 p.f0.f2 p.f0.f3 p.f1 r.f0 r.f1 r.f2 r.f3 r.f4) (a, c) ∧ Ev (fun k => az_.f k p.f0.f0 p.f0.f1 p.f0.f2 p.f0.f3 p.f1 r.f0 r.f1 r.f2 r.f3 r.f4) (a, c) ∧ (c = 0 → rOk r = true ∧ p.f1.length = p.f0.f3.length ∧ p.f0.f3.length ≤ 24 ∧ p.f0.f2.length ≤ 48 ∧ p.f1.all vOk = true) := by
 obtain ⟨b, b1, b2, b3⟩ := ask_ev p r h hv
 have bad : Ev (fun k => az_.j0 k true p.f0.f0 p.f0.f1 p.f0.f2 p.f0.f3 p.f1 r.f0 r.f1 r.f2 r.f3 r.f4) (0, 1) := by
  refine aK_ ?_
  simp only [az_.j0]
  exact Ev_t (by simp) (Ev_n rfl)
 simp only [cn_.f, az_.f]
 cases b with
 | false => exact ⟨0, 1, Ev_b b1 (Ev_f (by simp) (Ev_n rfl)), Ev_b b2 (Ev_f (by decide) bad), fun h => by cases h⟩
 | true =>
  cases hr : rOk r with
  | false =>
   rw [hr] at b1
   exact ⟨0, 1, Ev_b b1 (Ev_f (by simp) (Ev_n rfl)), Ev_b b2 (Ev_t rfl (Ev_b (Ev_c (rates_f r).2) (by rw [hr]; exact bad))), fun h => by cases h⟩
  | true =>
   rw [hr] at b1
   obtain ⟨c1, c2, c3, c4⟩ := b3 rfl
   obtain ⟨m, m1, m2⟩ := mat_ev p r h c1 c2 c4
   refine ⟨m, 0, Ev_b b1 (Ev_t (by simp) (Ev_b m1 (Ev_n rfl))), Ev_b b2 (Ev_t rfl (Ev_b (Ev_c (rates_f r).2) ?_)), fun _ => ⟨rfl, c1, c2, c3, c4⟩⟩
   rw [hr]
   refine aK_ ?_
   simp only [az_.j0]
   exact Ev_f (by decide) m2
theorem law_MaterialOf : ap_.Pure := by
 intro x r hx hr
 have hM : maxLen = 9223372036854775807 := by decide
 refine Ev.rounds (r := true) ?_
 simp only [ap_.f]
 refine Ev_b (sz_Picture x hx (1048576) (by omega) (by omega)) ?_
 by_cases cx : ((dw_ x : Nat) : Int) ≤ 1048576
 case neg => rw [cs_ cx]; exact Ev_t (by decide) (Ev_n rfl)
 rw [cW_ cx]
 refine Ev_f (by omega) ?_
 have bx : B_Picture x := B_of_Picture x (by omega)
 have tx := to_Picture x bx
 have qx := eq_Picture (cq_ x) (E_of_Picture x bx)
 have tr := to_Rates r trivial
 have Ex := E_of_Picture x bx
 obtain ⟨r0, r1, e1, e2, _⟩ := material_ev (cq_ x) (conv_Rates r) ⟨Ex.1.1.1, Ex.1.2.1, Ex.1.2.2⟩ Ex.2.1
 repeat' (first | ((first | (with_reducible refine Ev_b e1 ?_) | (with_reducible refine Ev_b e2 ?_) | (with_reducible refine Ev_b tx ?_) | (with_reducible refine Ev_b qx ?_) | (with_reducible refine Ev_b tr ?_)); try dsimp only) | (with_reducible refine Ev_t rfl ?_) | (with_reducible refine Ev_t True.intro ?_) | (refine Ev_f (by omega) ?_) | (refine Ev_t (by omega) ?_) | (refine Ev_f (by simp) ?_) | exact Ev_n rfl | (refine aK_ ?_; first | simp only [ap_.j0] | simp only [ap_.j1] | simp only [ap_.j2]))
end Go.Proofs.Ytpjhnchfhghlcaa.Q
namespace Go.Proofs.Ytpjhnchfhghlcaa.Pure
open Go.Proofs.Ytpjhnchfhghlcaa.Q
theorem FnExactMaterialOf : ap_.Pure := law_MaterialOf
end Go.Proofs.Ytpjhnchfhghlcaa.Pure
namespace Go.Proofs.Ytpjhnchfhghlcaa.fnExactMaterialOf
open Go.ChangeShapes Go.WideShapes Go.ChangeAt Go.RowKit Go.Proofs.Ytpjhnchfhghlcaa.OPN Go.Proofs.Ytpjhnchfhghlcaa.Q Go.Proofs.YtpjhnchfhghlcaaW.PrintWords
open Go.ChangeMaps (open_string shut_string)
theorem own : ownKnob Try.prog.godebug = none := by kernel_rfl
theorem laidOut : laidOutB Try.prog = true := by kernel_rfl
set_option maxRecDepth 100000 in
theorem lifted (os : Os) (started : os.Started) (H : Type) (enc : TypeId × Value → H) :
  ReturnsInHanded {} Try.checked os 3 .any (Rows.fnExactMaterialOfSpec.pre6 enc Try.prog Try.f3 Rows.fnExactMaterialOfRow.domain false) (Rows.fnExactMaterialOfSpec.post enc Try.prog Try.f3 false true false false) := by
 refine returnsInHanded_of_change_sized (C := Try.checked) own started (by kernel_rfl) Try.func3
  (ChangeSpec.witness6 (enc := enc) (C := Try.checked) false ⟨#[], #[.agg #[.int .i64 0, .int .i64 0, .slice none 0 0, .slice none 0 0, .slice none 0 0], .agg #[.int .i64 0, .int .i64 0, .int .i64 0, .int .i64 0, .int .i64 0]], []⟩ 8 (by kernel_rfl) (by kernel_rfl) (by kernel_rfl) (by kernel_rfl)) ?_
 intro W base args ds gs before hval0 hW hcnd hsz0 _
 have hval : ∀ (j : Nat) t v, Try.f3.params[j]? = some t → args[j]? = some v → Value.okWide Try.prog W .any base t v := hval0
 have hW' := hW
 obtain ⟨p, q, hA0, hV, rfl, hfz, hnd⟩ := hW
 have hA : DataW.TrodAll enc Try.prog W 0 (fun _ => true) true Try.f3.params.toList args.toList ds p := hA0
 rw [Try.params3] at hA hval
 obtain ⟨v0, vs0, d0, ds0, p0, q0, hargs, rfl, rfl, h0, r0⟩ := trodAll_cons hA
 obtain ⟨v1, vs1, d1, ds1, p1, q1, rfl, rfl, rfl, h1, r1⟩ := trodAll_cons r0
 obtain ⟨rfl, rfl, rfl⟩ := trodAll_nil r1
 obtain rfl : args = #[v0, v1] := by cases args; simp_all
 obtain ⟨rfl, rfl⟩ := trodVars_none hV
 have lt0 : ∀ x ∈ p0, x.block < W.heap.size := by obtain ⟨m, hm⟩ := h0; exact DataW.trod_lt m _ _ _ hm
 have k0 := h0
 obtain ⟨cs0, rfl, hs0⟩ := okWide_struct Try.underlying28 (hval 0 28 v0 rfl rfl)
 obtain ⟨fu0, hf0⟩ := h0
 obtain ⟨x0, hK0, w0⟩ := opn28.get (by rw [← opn28.size, ← hs0]; simp [Value.cells]) hf0
 obtain ⟨A0_2, c0_2, A0_3, c0_3, A0_4, c0_4, hcs0, hc0_2, hr0_2, hc0_3, hr0_3, hc0_4, hr0_4⟩ := k28_open hK0
 obtain rfl : cs0 = #[.int .i64 x0.f0.f0, .int .i64 x0.f0.f1, .slice A0_2 x0.f0.f2.length c0_2, .slice A0_3 x0.f0.f3.length c0_3, .slice A0_4 x0.f1.length c0_4] := by apply Array.ext'; exact hcs0
 have lt1 : ∀ x ∈ p1, x.block < W.heap.size := by obtain ⟨m, hm⟩ := h1; exact DataW.trod_lt m _ _ _ hm
 have k1 := h1
 obtain ⟨cs1, rfl, hs1⟩ := okWide_struct Try.underlying30 (hval 1 30 v1 rfl rfl)
 obtain ⟨fu1, hf1⟩ := h1
 obtain ⟨x1, hK1, w1⟩ := opn30.get (by rw [← opn30.size, ← hs1]; simp [Value.cells]) hf1
 have hcs1 := k30_open hK1
 obtain rfl : cs1 = #[.int .i64 x1.f0, .int .i64 x1.f1, .int .i64 x1.f2, .int .i64 x1.f3, .int .i64 x1.f4] := by apply Array.ext'; exact hcs1
 clear hA0 hval0 hsz0
 obtain ⟨k, hP⟩ := Pure.FnExactMaterialOf x0 x1 w0 w1
 refine (ap_.calls k x0.f0.f0 x0.f0.f1 A0_2 c0_2 x0.f0.f2 A0_3 c0_3 x0.f0.f3 A0_4 c0_4 x0.f1 x1.f0 x1.f1 x1.f2 x1.f3 x1.f4 true W hr0_2 hc0_2 hr0_3 hc0_3 hr0_4 hc0_4 hP).mono fun e W' hh => ?_
 obtain ⟨rfl, bel0⟩ := hh
 have bel : Below W.heap.size W W' := bel0
 exact ⟨_, rfl, _, _, _, [], _, [], hW', trodAll_mk1 (shut_bool Try.underlying4 _), (trodAll_cons_mk (Below.trod laidOut (by kernel_rfl) (of_decide_eq_true (by kernel_rfl)) k0 bel lt0) (trodAll_cons_mk (Below.trod laidOut (by kernel_rfl) (of_decide_eq_true (by kernel_rfl)) k1 bel lt1) trodAll_mk0)), rfl, bel.frame _, fun h => by cases h⟩
theorem over : Rows.fnExactMaterialOfRow.holds Try.pinned (OpenSpec.ofChange Rows.fnExactMaterialOfSpec) :=
 OpenClaim.holds_of_wide 3 Try.f3 rfl rfl rfl rfl rfl rfl rfl ⟨rfl, rfl, rfl, rfl, rfl⟩ rfl rfl rfl rfl rfl (by kernel_rfl) Try.func3 (by kernel_rfl)
  (of_decide_eq_true (by kernel_rfl)) (by unfold Func.isWrapper; first | (rw [if_pos (by decide +kernel)]; kernel_rfl) | (rw [if_neg (by decide +kernel)]; exact ⟨rfl, rfl⟩))
  (fun os started H enc _ => lifted os started H enc)
theorem proved : Rows.FnExactMaterialOfSaid := over
#print axioms proved
end Go.Proofs.Ytpjhnchfhghlcaa.fnExactMaterialOf
namespace Go.Proofs.Ytpjhnchfhghlcaa
theorem fnExactMaterialOf_holds : Rows.FnExactMaterialOfSaid := fnExactMaterialOf.proved
end Go.Proofs.Ytpjhnchfhghlcaa
