/- For all arguments that the law's sizes let in, the program's MergeStates gives what the reference gives. This text holds the last walks, the plain law and the row. -/
import Derived.Lib.SlicesCompact
import Derived.Lib.Bytealg
import Derived.Test.YtiheginanghhjaaRows
import Derived.WalkKit
import Derived.ProofKit
import Derived.OpenShut
import Derived.ShutString
import Derived.ChangeOld
import Derived.Below
import Derived.SizedLaws
import Derived.Carry
import Derived.Test.YtiheginanghhjaaKFnExactMergeStatesa
import Derived.Test.YtiheginanghhjaaKFnExactMergeStatesd
import Derived.Test.YtiheginanghhjaaKFnExactMergeStatesc
import Derived.Test.YtiheginanghhjaaKFnExactMergeStatese
import Derived.Test.YtiheginanghhjaaKFnExactMergeStatesb
set_option linter.unusedVariables false
set_option linter.unusedSimpArgs false
namespace Go.Proofs.Ytiheginanghhjaa.Q
open Go.RowKit Go.Proofs.YtiheginanghhjaaW.PrintWords Go.Proofs.YtiheginanghhjaaW.PrintLast Go.Proofs.YtiheginanghhjaaW.PrintMore
theorem ep_ev (a0 a1 : ByteArray) (a2 a3 : Int) (b : ByteArray) : impl_entryPlace_1.f a0 a1 a2 a3 b = some (Go.Lib.compareBytes a0.data.toList b.data.toList) := by
 unfold impl_entryPlace_1.f strings_Compare.f
 rfl
theorem keyE_iff (x : Ent) (u : ByteArray) : Go.Lib.compareBytes (fcE x) u.data.toList = 0 ↔ x.f0.toList = u.toList := by
 rw [cb_ord.zero]
 simp only [fcE, Go.ByteArray.toList_eq]
theorem bsE_ev (l : List Ent) (hl : (l.length : Int) ≤ 1048576) (u : ByteArray) (hr : Rsg (fun x => Go.Lib.compareBytes (fcE x) u.data.toList) l) :
  Ev (fun k => impl_Entry_string.f k l u) (((plc (fun x => Go.Lib.compareBytes (fcE x) u.data.toList) l : Nat) : Int), fnd (fun x => Go.Lib.compareBytes (fcE x) u.data.toList) l) := by
 have hp0 := plc_le (fun x => Go.Lib.compareBytes (fcE x) u.data.toList) l
 have go : ∀ (d i j : Nat), j = i + d → i ≤ plc (fun x => Go.Lib.compareBytes (fcE x) u.data.toList) l → plc (fun x => Go.Lib.compareBytes (fcE x) u.data.toList) l ≤ j → j ≤ l.length → Ev (fun k => impl_Entry_string.l0 k l u (l.length : Int) i j) (((plc (fun x => Go.Lib.compareBytes (fcE x) u.data.toList) l : Nat) : Int), fnd (fun x => Go.Lib.compareBytes (fcE x) u.data.toList) l) := by
  intro d
  induction d using Nat.strongRecOn with
  | _ d ih =>
  intro i j h1 h2 h3 h4
  refine Ev_suc ?_
  simp only [impl_Entry_string.l0]
  by_cases hd : d = 0
  rotate_left
  ·refine Ev_t (by omega) ?_
   rw [mid_ev i j (by omega)]
   obtain ⟨m, hm⟩ : ∃ m, m = (i + j) / 2 := ⟨_, rfl⟩
   rw [← hm]
   have hm1 : m < l.length := by omega
   refine Ev_t (by omega) (Ev_t (by omega) ?_)
   rw [rdi_Entry l m hm1, ep_ev]
   refine Ev_s ?_
   by_cases hc : Go.Lib.compareBytes l[m].f0.data.toList u.data.toList < 0
   rotate_left
   ·refine Ev_f hc ?_
    refine ih (m - i) (by omega) i m (by omega) h2 ?_ (by omega)
    rcases Nat.lt_or_ge m (plc (fun x => Go.Lib.compareBytes (fcE x) u.data.toList) l) with g | g
    ·exact absurd (plc_lt _ l m hm1 g) hc
    ·exact g
   refine Ev_t hc ?_
   rw [wr64s m (by omega)]
   refine ih (j - (m + 1)) (by omega) (m + 1) j (by omega) ?_ h3 h4
   rcases Nat.lt_or_ge m (plc (fun x => Go.Lib.compareBytes (fcE x) u.data.toList) l) with g | g
   ·exact g
   ·rcases Nat.lt_or_eq_of_le g with g | g
    ·have hgt : 0 < Go.Lib.compareBytes (fcE l[m]) u.data.toList := hr.gt m hm1 g
     have hc' : Go.Lib.compareBytes (fcE l[m]) u.data.toList < 0 := hc
     omega
    ·have := plc_at (fun x => Go.Lib.compareBytes (fcE x) u.data.toList) l (by omega)
     simp only [g] at this
     have hc' : Go.Lib.compareBytes (fcE l[m]) u.data.toList < 0 := hc
     omega
  refine Ev_f (by omega) ?_
  have hp : plc (fun x => Go.Lib.compareBytes (fcE x) u.data.toList) l = i := by omega
  by_cases hn : i < l.length
  rotate_left
  ·refine Ev_f (by omega) (Ev_n ?_)
   unfold fnd
   rw [dif_neg (by omega), hp]
  refine Ev_t (by omega) (Ev_t (by omega) (Ev_t (by omega) ?_))
  rw [rdi_Entry l i hn, ep_ev]
  refine Ev_s (Ev_n ?_)
  unfold fnd
  rw [dif_pos (by omega)]
  simp only [hp]
  rfl
 simp only [impl_Entry_string.f]
 exact go l.length 0 l.length (by omega) (by omega) hp0 (Nat.le_refl _)
theorem findE_ev (l : List Ent) (hl : (l.length : Int) ≤ 1048576) (u : ByteArray) (hr : Rsg (fun x => Go.Lib.compareBytes (fcE x) u.data.toList) l) :
  Ev (fun k => spec_l27At.f k l u) (if fnd (fun x => Go.Lib.compareBytes (fcE x) u.data.toList) l = true then ((plc (fun x => Go.Lib.compareBytes (fcE x) u.data.toList) l : Nat) : Int) else -1) := by
 obtain ⟨c, hc⟩ : ∃ c, c = (fun x => Go.Lib.compareBytes (fcE x) u.data.toList) := ⟨_, rfl⟩
 rw [← hc] at hr ⊢
 have key : ∀ x, c x = 0 ↔ x.f0.toList = u.toList := fun x => by rw [hc]; exact keyE_iff x u
 have go : ∀ (d i : Nat), i + d = l.length → (∀ (j : Nat) (hj : j < l.length), j < i → c l[j] ≠ 0) → Ev (fun k => spec_l27At.l0 k l u i) (if fnd c l = true then ((plc c l : Nat) : Int) else -1) := by
  intro d
  induction d with
  | zero =>
   intro i h1 h2
   refine Ev_suc ?_
   simp only [spec_l27At.l0]
   refine Ev_f (by omega) (Ev_n ?_)
   rw [if_neg]
   intro h
   obtain ⟨hp, h0⟩ := fnd_t h
   exact h2 _ hp (by omega) h0
  | succ d ih =>
   intro i h1 h2
   refine Ev_suc ?_
   simp only [spec_l27At.l0]
   refine Ev_t (by omega) (Ev_t (by omega) ?_)
   rw [rdi_Entry l i (by omega), wr64s i (by omega)]
   have more : c l[i] ≠ 0 → Ev (fun k => spec_l27At.l0 k l u ((i + 1 : Nat) : Int)) (if fnd c l = true then ((plc c l : Nat) : Int) else -1) := fun hn =>
    ih (i + 1) (by omega) (fun j hj hji => by
     rcases Nat.lt_or_eq_of_le (Nat.le_of_lt_succ hji) with g | g
     ·exact h2 j hj g
     ·subst g; exact hn)
   by_cases e0 : l[i].f0.toList = u.toList
   rotate_left
   ·exact Ev_f e0 (more (fun h => e0 ((key _).1 h)))
   refine Ev_t e0 (Ev_n ?_)
   have hz := (key l[i]).2 e0
   have hp : plc c l = i := by
    rcases Nat.lt_trichotomy i (plc c l) with g | g | g
    ·have := plc_lt c l i (by omega) g; omega
    ·exact g.symm
    ·have := hr.gt i (by omega) g; omega
   have hf : fnd c l = true := by
    unfold fnd
    rw [dif_pos (by omega)]
    simp only [hp, hz, decide_true]
   rw [if_pos hf, hp]
 simp only [spec_l27At.f]
 exact go l.length 0 (by omega) (fun j _ hj => by omega)
theorem placeE_ev (l : List Ent) (hl : (l.length : Int) ≤ 1048576) (u : ByteArray) (hr : Rsg (fun x => Go.Lib.compareBytes (fcE x) u.data.toList) l) :
  Ev (fun k => impl_entryPlace.f k l u) (((plc (fun x => Go.Lib.compareBytes (fcE x) u.data.toList) l : Nat) : Int), fnd (fun x => Go.Lib.compareBytes (fcE x) u.data.toList) l) := by
 simp only [impl_entryPlace.f]
 exact Ev_b (bsE_ev l hl u hr) (Ev_n rfl)
theorem Sta.rsg {m : List Ent} (h : Sta m) (t : List UInt8) : Rsg (fun x => Go.Lib.compareBytes (fcE x) t) m := rsg_of cb_ord fcE h.2.1 t
theorem ven_ne {l : List UInt8} {a b : Int} (h : vVen l a b = true) : l ≠ [] := by
 intro e
 subst e
 simp [vVen, spi] at h
end Go.Proofs.Ytiheginanghhjaa.Q
namespace Go.Proofs.Ytiheginanghhjaa.Q
open Go.RowKit Go.Proofs.YtiheginanghhjaaW.PrintWords Go.Proofs.YtiheginanghhjaaW.PrintLast Go.Proofs.YtiheginanghhjaaW.PrintMore
section
variable {α κ : Type} {c : κ → κ → Int} {key : α → κ}
theorem rsgG (ho : Ordr c) {l : List α} (h : l.Pairwise (fun x y => c (key x) (key y) < 0)) (t : κ) : Rsg (fun x => c (key x) t) l := by
 intro i j hi hj h0
 exact ho.step ((List.pairwise_iff_getElem.1 h) i j (by omega) hj hi) h0
def putG (c : κ → κ → Int) (key : α → κ) (l : List α) (b : α) : List α :=
 if fnd (fun x => c (key x) (key b)) l = true then l.take (plc (fun x => c (key x) (key b)) l) ++ b :: l.drop (plc (fun x => c (key x) (key b)) l + 1)
 else l.take (plc (fun x => c (key x) (key b)) l) ++ b :: l.drop (plc (fun x => c (key x) (key b)) l)
theorem aheadG {l : List α} {t : κ} {x : α} (h : x ∈ l.take (plc (fun x => c (key x) t) l)) : c (key x) t < 0 := by
 obtain ⟨i, hi, rfl⟩ := List.mem_iff_getElem.1 h
 rw [List.getElem_take]
 exact plc_lt (fun x => c (key x) t) l i (by simp at hi; omega) (by simp at hi; omega)
theorem behindG {l : List α} {t : κ} (hr : Rsg (fun x => c (key x) t) l) {x : α} (h : x ∈ l.drop (plc (fun x => c (key x) t) l + 1)) : 0 < c (key x) t := by
 obtain ⟨i, hi, rfl⟩ := List.mem_iff_getElem.1 h
 rw [List.getElem_drop]
 exact hr.gt _ (by simp at hi; omega) (by omega)
theorem putG_pw (ho : Ordr c) {l : List α} (h : l.Pairwise (fun x y => c (key x) (key y) < 0)) (b : α) : (putG c key l b).Pairwise (fun x y => c (key x) (key y) < 0) := by
 have hr := rsgG ho h (key b)
 have hp := plc_le (fun x => c (key x) (key b)) l
 have key' : ∀ q, (∀ x ∈ l.drop q, 0 < c (key x) (key b)) → plc (fun x => c (key x) (key b)) l ≤ q → (l.take (plc (fun x => c (key x) (key b)) l) ++ b :: l.drop q).Pairwise (fun x y => c (key x) (key y) < 0) := by
  intro q hq hle
  rw [List.pairwise_append]
  refine ⟨h.sublist (List.take_sublist _ _), ?_, ?_⟩
  ·rw [List.pairwise_cons]
   exact ⟨fun y hy => (ho.anti _ _).2 (hq y hy), h.sublist (List.drop_sublist _ _)⟩
  ·intro x hx y hy
   have hx0 := aheadG hx
   rcases List.mem_cons.1 hy with e | e
   ·subst e; exact hx0
   ·exact ho.trans _ _ _ hx0 ((ho.anti _ _).2 (hq y e))
 unfold putG
 split
 ·exact key' _ (fun x hx => behindG hr hx) (by omega)
 ·rename_i hf
  refine key' _ (fun x hx => ?_) (Nat.le_refl _)
  obtain ⟨i, hi, rfl⟩ := List.mem_iff_getElem.1 hx
  rw [List.getElem_drop]
  simp at hi
  have hn := fnd_f hr (by simpa using hf) (plc (fun x => c (key x) (key b)) l + i) (by omega)
  rcases Nat.eq_zero_or_pos i with g | g
  ·subst g
   have := plc_at (fun x => c (key x) (key b)) l (by omega)
   simp only [Nat.add_zero] at hn ⊢
   omega
  ·exact hr.gt _ (by omega) (by omega)
theorem putG_len (l : List α) (b : α) : (putG c key l b).length ≤ l.length + 1 ∧ (fnd (fun x => c (key x) (key b)) l = true → (putG c key l b).length = l.length) ∧ (fnd (fun x => c (key x) (key b)) l = false → (putG c key l b).length = l.length + 1) := by
 have hp := plc_le (fun x => c (key x) (key b)) l
 unfold putG
 cases hf : fnd (fun x => c (key x) (key b)) l with
 | true =>
  obtain ⟨h1, _⟩ := fnd_t hf
  simp
  omega
 | false =>
  simp
  omega
end
end Go.Proofs.Ytiheginanghhjaa.Q
namespace Go.Proofs.Ytiheginanghhjaa.Q
open Go.RowKit Go.Proofs.YtiheginanghhjaaW.PrintWords Go.Proofs.YtiheginanghhjaaW.PrintLast Go.Proofs.YtiheginanghhjaaW.PrintMore
abbrev risE (l : List Ent) : Prop := l.Pairwise (fun x y => Go.Lib.compareBytes (fcE x) (fcE y) < 0)
abbrev putE (l : List Ent) (b : Ent) : List Ent := putG Go.Lib.compareBytes fcE l b
theorem setE_ev (l : List Ent) (hl : (l.length : Int) ≤ 1048576) (b : Ent) (hr : Rsg (fun x => Go.Lib.compareBytes (fcE x) (fcE b)) l) : Ev (fun k => spec_l27Set.f k l b.f0 b.f1.f0 b.f1.f1 b.f1.f2) (putE l b) := by
 obtain ⟨c, hc⟩ : ∃ c, c = (fun x => Go.Lib.compareBytes (fcE x) (fcE b)) := ⟨_, rfl⟩
 unfold putE putG
 rw [← hc] at hr ⊢
 have key : ∀ x, c x = 0 ↔ x.f0.toList = b.f0.toList := fun x => by rw [hc]; exact keyE_iff x b.f0
 have cEq : ∀ y : Ent, Op.bytesLess y.f0.toList b.f0.toList = decide (c y < 0) := fun y => by
  rw [hc]
  have := less_iff y.f0.toList b.f0.toList
  simp only [fcE, Go.ByteArray.toList_eq] at this ⊢
  cases hb : Op.bytesLess y.f0.data.toList b.f0.data.toList with
  | true => exact (decide_eq_true (this.1 hb)).symm
  | false => exact (decide_eq_false (fun h => by rw [this.2 h] at hb; cases hb)).symm
 have hb : ∀ y : Ent, (⟨y.f0, (⟨y.f1.f0, y.f1.f1, y.f1.f2⟩ : S61)⟩ : Ent) = y := fun y => rfl
 have two : ∀ (d i : Nat) (out : List Ent), i + d = l.length → plc c l < i → out.length ≤ i + 1 → Ev (fun k => spec_l27Set.l0 k l out true i b.f0 b.f1.f0 b.f1.f1 b.f1.f2) (out ++ l.drop i) := by
  intro d
  induction d with
  | zero =>
   intro i out h1 h2 h3
   refine Ev_suc ?_
   simp only [spec_l27Set.l0]
   rw [List.drop_of_length_le (by omega), List.append_nil]
   exact Ev_f (by omega) (Ev_t (by first | exact True.intro | rfl) (Ev_n rfl))
  | succ d ih =>
   intro i out h1 h2 h3
   refine Ev_suc ?_
   simp only [spec_l27Set.l0]
   refine Ev_t (by omega) (Ev_t (by first | exact True.intro | rfl) (Ev_suc ?_))
   simp only [spec_l27Set.j1]
   refine Ev_f (by decide) (Ev_t (by omega) (Ev_t (by omega) ?_))
   rw [rdi_Entry l i (by omega), wr64s i (by omega), List.drop_eq_getElem_cons (show i < l.length by omega), hb]
   have hn : c l[i] ≠ 0 := by have := hr.gt i (by omega) h2; omega
   have nxt := ih (i + 1) (out ++ [l[i]]) (by omega) (by omega) (by simp; omega)
   rw [List.append_assoc, List.singleton_append] at nxt
   exact Ev_f (fun e0 => hn ((key _).2 e0)) (Ev_t (by omega) nxt)
 have one : ∀ (d i : Nat), i + d = plc c l → Ev (fun k => spec_l27Set.l0 k l (l.take i) false i b.f0 b.f1.f0 b.f1.f1 b.f1.f2) (if fnd c l = true then l.take (plc c l) ++ b :: l.drop (plc c l + 1) else l.take (plc c l) ++ b :: l.drop (plc c l)) := by
  have hp0 := plc_le c l
  intro d
  induction d with
  | zero =>
   intro i h1
   have h1' : i = plc c l := by omega
   subst h1'
   refine Ev_suc ?_
   simp only [spec_l27Set.l0]
   have hlen : (l.take (plc c l)).length = plc c l := by simp; omega
   by_cases hn : plc c l < l.length
   rotate_left
   ·have hf : ¬ fnd c l = true := by unfold fnd; rw [dif_neg hn]; decide
    rw [if_neg hf, List.drop_of_length_le (by omega)]
    exact Ev_f (by omega) (Ev_f (by decide) (Ev_t (by omega) (Ev_n rfl)))
   refine Ev_t (by omega) (Ev_f (by decide) (Ev_t (by omega) (Ev_suc ?_)))
   rw [rdi_Entry l _ hn, cEq]
   have h0 := plc_at c l hn
   simp only [spec_l27Set.j1]
   refine Ev_t (by simpa using h0) (Ev_t (by omega) (Ev_s (Ev_t (by omega) (Ev_t (by omega) ?_))))
   rw [rdi_Entry l _ hn, hb, hb, wr64s _ (by omega)]
   have more : ∀ out : List Ent, out.length ≤ plc c l + 2 → Ev (fun k => spec_l27Set.l0 k l out true ((plc c l + 1 : Nat) : Int) b.f0 b.f1.f0 b.f1.f1 b.f1.f2) (out ++ l.drop (plc c l + 1)) := fun out ho =>
    two (l.length - (plc c l + 1)) (plc c l + 1) out (by omega) (by omega) ho
   by_cases hz : c l[plc c l] = 0
   rotate_left
   ·have hf : ¬ fnd c l = true := by unfold fnd; rw [dif_pos hn]; simpa using hz
    rw [if_neg hf]
    refine Ev_f (fun e0 => hz ((key _).2 e0)) (Ev_t (by simp; omega) ?_)
    refine Ev_at (more (l.take (plc c l) ++ [b] ++ [l[plc c l]]) (by simp; omega)) ?_
    rw [List.append_assoc, List.append_assoc, List.singleton_append, List.singleton_append, List.getElem_cons_drop]
   have hf : fnd c l = true := by unfold fnd; rw [dif_pos hn]; simpa using hz
   rw [if_pos hf]
   refine Ev_t ((key _).1 hz) ?_
   refine Ev_at (more _ (by simp; omega)) ?_
   rw [List.append_assoc, List.singleton_append]
  | succ d ih =>
   intro i h1
   have hi : i < l.length := by omega
   have hlen : (l.take i).length = i := by simp; omega
   refine Ev_suc ?_
   simp only [spec_l27Set.l0]
   refine Ev_t (by omega) (Ev_f (by decide) (Ev_t (by omega) (Ev_suc ?_)))
   rw [rdi_Entry l i hi, cEq]
   have h0 := plc_lt c l i hi (by omega)
   simp only [spec_l27Set.j1]
   refine Ev_f (by simpa using h0) (Ev_t (by omega) (Ev_t (by omega) ?_))
   rw [rdi_Entry l i hi, hb, wr64s i (by omega)]
   have nxt := ih (i + 1) (by omega)
   rw [List.take_succ_eq_append_getElem hi] at nxt
   exact Ev_f (fun e0 => by have := (key _).2 e0; omega) (Ev_t (by omega) nxt)
 simp only [spec_l27Set.f]
 exact one (plc c l) 0 (by omega)
end Go.Proofs.Ytiheginanghhjaa.Q
namespace Go.Proofs.Ytiheginanghhjaa.Q
open Go.RowKit Go.Proofs.YtiheginanghhjaaW.PrintWords Go.Proofs.YtiheginanghhjaaW.PrintLast Go.Proofs.YtiheginanghhjaaW.PrintMore
set_option linter.unusedSimpArgs false
set_option linter.unusedVariables false
theorem fs_lt : ∀ a b : List UInt8, a < b ↔ Go.Lib.compareBytes a b < 0
 | [], [] => by simp [Go.Lib.compareBytes]
 | [], _ :: _ => by simp [Go.Lib.compareBytes]
 | _ :: _, [] => by simp [Go.Lib.compareBytes]
 | x :: a, y :: b => by
  have ih := fs_lt a b
  rw [List.cons_lt_cons_iff]
  simp only [Go.Lib.compareBytes]
  by_cases h1 : x < y
  rotate_left
  ·by_cases h2 : y < x
   rotate_left
   ·have : x = y := UInt8.le_antisymm (UInt8.not_lt.1 h2) (UInt8.not_lt.1 h1)
    subst this
    simp [h1, ih]
   have : x ≠ y := fun e => by subst e; exact h1 h2
   simp [h1, h2, this]
  simp [h1]
theorem fs_le (l : List (List UInt8)) : (l.mergeSort fun x y => decide (x ≤ y)).Pairwise (fun x y => x ≤ y) := by
 have := List.pairwise_mergeSort (le := fun x y : List UInt8 => decide (x ≤ y)) (fun a b c h1 h2 => by simp only [decide_eq_true_eq] at *; exact List.le_trans h1 h2) (fun a b => by simp only [Bool.or_eq_true, decide_eq_true_eq]; exact List.le_total a b) l
 exact this.imp (fun h => by simpa using h)
theorem fs_pw (zs : List (List UInt8)) (h : zs.Pairwise (fun x y => x ≤ y)) : (Go.Lib.compact zs).Pairwise (fun x y => x < y) := by
 unfold Go.Lib.compact Go.Lib.compactUpTo
 rw [List.pairwise_map]
 refine List.Pairwise.imp_of_mem (R := fun i j => i < j) (fun {i j} hi hj hij => ?_) ((List.pairwise_lt_range (n := zs.length)).sublist List.filter_sublist)
 obtain ⟨hj1, hj2⟩ := List.mem_filter.1 hj
 have hj1 := List.mem_range.1 hj1
 simp only [Go.Lib.keeps, decide_eq_true_eq] at hj2
 have g := List.pairwise_iff_getElem.1 h
 have e : ∀ q (hq : q < zs.length), zs.toArray[q]! = zs[q] := fun q hq => by simp [getElem!_pos, hq]
 rw [e j hj1, e (j - 1) (by omega)] at hj2
 rw [e j hj1, e i (by omega)]
 have h2 : zs[j - 1] < zs[j] := by
  have l1 := g (j - 1) j (by omega) hj1 (by omega)
  have ne : zs[j - 1] ≠ zs[j] := fun q => by rcases hj2 with r | r; omega; exact r q.symm
  exact Decidable.byContradiction fun hn => ne (List.le_antisymm l1 hn)
 by_cases hij2 : i = j - 1
 rotate_left
 ·exact Decidable.byContradiction fun hn => absurd (List.le_trans (List.not_lt.1 hn) (g i (j - 1) (by omega) (by omega) (by omega))) (fun hle => hle h2)
 subst hij2; exact h2
theorem fs_mem (zs : List (List UInt8)) (x : List UInt8) : x ∈ Go.Lib.compact zs ↔ x ∈ zs := by
 unfold Go.Lib.compact Go.Lib.compactUpTo
 have e : ∀ q (hq : q < zs.length), zs.toArray[q]! = zs[q] := fun q hq => by simp [getElem!_pos, hq]
 constructor
 ·intro h
  obtain ⟨j, hj, rfl⟩ := List.mem_map.1 h
  have := List.mem_range.1 (List.mem_filter.1 hj).1
  rw [e j this]
  exact List.getElem_mem _
 ·intro h
  obtain ⟨j, hj, rfl⟩ := List.mem_iff_getElem.1 h
  clear h
  induction j with
  | zero => exact List.mem_map.2 ⟨0, List.mem_filter.2 ⟨List.mem_range.2 hj, by simp [Go.Lib.keeps]⟩, e 0 hj⟩
  | succ j ih =>
   by_cases hk : Go.Lib.keeps zs.toArray (j + 1) = true
   rotate_left
   ·have : zs[j + 1] = zs[j] := by
     have h3 := hk
     simp only [Go.Lib.keeps, decide_eq_true_eq] at h3
     rw [e _ hj, e (j + 1 - 1) (by omega)] at h3
     have := fun q => h3 (.inr q)
     simpa using this
    rw [this]
    exact ih (by omega)
   exact List.mem_map.2 ⟨j + 1, List.mem_filter.2 ⟨List.mem_range.2 hj, hk⟩, e _ hj⟩
theorem fs_uniq : ∀ (a b : List (List UInt8)), a.Pairwise (fun x y => x < y) → b.Pairwise (fun x y => x < y) → (∀ x, x ∈ a ↔ x ∈ b) → a = b
 | [], [], _, _, _ => rfl
 | [], y :: b, _, _, h => by have := (h y).2 (by simp); simp at this
 | x :: a, [], _, _, h => by have := (h x).1 (by simp); simp at this
 | x :: a, y :: b, ha, hb, h => by
  rw [List.pairwise_cons] at ha hb
  have irr : ∀ z : List UInt8, ¬ z < z := fun z => List.lt_irrefl z
  have tr : ∀ p q r : List UInt8, p < q → q < r → p < r := fun p q r => List.lt_trans
  have e : x = y := by
   rcases List.mem_cons.1 ((h x).1 (by simp)) with q | q
   ·exact q
   ·rcases List.mem_cons.1 ((h y).2 (by simp)) with r | r
    ·exact r.symm
    ·exact absurd (tr _ _ _ (ha.1 y r) (hb.1 x q)) (irr _)
  subst e
  rw [fs_uniq a b ha.2 hb.2 (fun z => ?_)]
  constructor
  ·intro hz
   rcases List.mem_cons.1 ((h z).1 (by simp [hz])) with q | q
   ·subst q; exact absurd (ha.1 z hz) (irr _)
   ·exact q
  ·intro hz
   rcases List.mem_cons.1 ((h z).2 (by simp [hz])) with q | q
   ·subst q; exact absurd (hb.1 z hz) (irr _)
   ·exact q
abbrev bL (u : ByteArray) : List UInt8 := u.data.toList
theorem bL_inj {u v : ByteArray} (h : bL u = bL v) : u = v := by
 cases u with | mk a => cases v with | mk b => cases a; cases b; simp only [bL] at h; subst h; rfl
theorem map_bL_inj : ∀ {a b : List ByteArray}, a.map bL = b.map bL → a = b
 | [], [], _ => rfl
 | [], _ :: _, h => by simp at h
 | _ :: _, [], h => by simp at h
 | x :: a, y :: b, h => by
  simp only [List.map_cons, List.cons.injEq] at h
  rw [bL_inj h.1, map_bL_inj h.2]
def fcs (l : List ByteArray) : List ByteArray := slices_Compact_string_string.cmp (slices_Sort_string_string.srt l)
theorem fcs_map (l : List ByteArray) : (fcs l).map bL = Go.Lib.compact ((l.map bL).mergeSort fun x y => decide (x ≤ y)) := by
 have h1 : ∀ q : List (List UInt8), (q.map fun b => (⟨b.toArray⟩ : ByteArray)).map bL = q := fun q => by
  rw [List.map_map]; simp [bL, Function.comp_def]
 have h2 : (slices_Sort_string_string.srt l).map bL = (l.map bL).mergeSort fun x y => decide (x ≤ y) := h1 _
 have h3 : (fcs l).map bL = Go.Lib.compact ((slices_Sort_string_string.srt l).map bL) := h1 _
 rw [h3, h2]
theorem fcs_pw (l : List ByteArray) : ((fcs l).map bL).Pairwise (fun x y => x < y) := by
 rw [fcs_map]
 exact fs_pw _ (fs_le _)
theorem fcs_memb (l : List ByteArray) (x : List UInt8) : x ∈ (fcs l).map bL ↔ x ∈ l.map bL := by
 rw [fcs_map, fs_mem, List.mem_mergeSort]
theorem fcs_mem (l : List ByteArray) (u : ByteArray) : u ∈ fcs l ↔ u ∈ l := by
 have h : ∀ q : List ByteArray, u ∈ q ↔ bL u ∈ q.map bL := fun q => ⟨fun h => List.mem_map.2 ⟨u, h, rfl⟩, fun h => by obtain ⟨v, hv, e⟩ := List.mem_map.1 h; rw [← bL_inj e]; exact hv⟩
 rw [h, h, fcs_memb]
theorem fcs_len (l : List ByteArray) : (fcs l).length ≤ l.length := by
 have h1 : (fcs l).length = ((fcs l).map bL).length := by simp
 rw [h1, fcs_map]
 unfold Go.Lib.compact Go.Lib.compactUpTo
 rw [List.length_map]
 exact Nat.le_trans (List.length_filter_le _ _) (by simp)
theorem faces_ev (L : List (List Ent)) (hL : L.length ≤ 3) (hs : ∀ s ∈ L, s.length ≤ 24) : Ev (fun k => impl_facesOf.f k L) (fcs (L.flatten.map (·.f0))) := by
 have inner : ∀ (i : Nat) (s : List Ent) (r : List ByteArray), s.length ≤ 24 → i < 3 → ∀ (d j : Nat) (out : List ByteArray), j + d = s.length → out.length ≤ 1000 + j → Ev (fun k => impl_facesOf.l0 k (out ++ (s.drop j).map (·.f0)) L (L.length : Int) ((i + 1 : Nat) : Int)) r → Ev (fun k => impl_facesOf.l1 k out L (L.length : Int) i s (s.length : Int) j) r := by
  intro i s r hs hi d
  induction d with
  | zero =>
   intro j out h1 h2 h3
   refine Ev_suc ?_
   simp only [impl_facesOf.l1]
   rw [List.drop_of_length_le (by omega)] at h3
   simp only [List.map_nil, List.append_nil] at h3
   rw [wr64s i (by omega)]
   exact Ev_f (by omega) h3
  | succ d ih =>
   intro j out h1 h2 h3
   refine Ev_suc ?_
   simp only [impl_facesOf.l1]
   rw [wr64s j (by omega), rdi_Entry s j (by omega)]
   refine Ev_t (by omega) (Ev_t (by omega) (Ev_t (by omega) (Ev_t (by omega) (ih (j + 1) _ (by omega) (by simp; omega) ?_))))
   rw [List.drop_eq_getElem_cons (show j < s.length by omega), List.map_cons] at h3
   rw [List.append_assoc, List.singleton_append]
   exact h3
 have outer : ∀ (d i : Nat) (out : List ByteArray), i + d = L.length → out.length ≤ 24 * i → Ev (fun k => impl_facesOf.l0 k out L (L.length : Int) i) (fcs (out ++ (L.drop i).flatten.map (·.f0))) := by
  intro d
  induction d with
  | zero =>
   intro i out h1 h2
   refine Ev_suc ?_
   simp only [impl_facesOf.l0]
   rw [List.drop_of_length_le (by omega)]
   simp only [List.flatten_nil, List.map_nil, List.append_nil]
   have hl : (slices_Sort_string_string.srt out).length = out.length := by simp [slices_Sort_string_string.srt]
   refine Ev_f (by omega) (Ev_b (a := slices_Sort_string_string.srt out) (Ev_c ?_) (Ev_b (a := fcs out) (Ev_c ?_) (Ev_n rfl)))
   ·unfold slices_Sort_string_string.f; rw [if_pos (by omega)]
   ·unfold slices_Compact_string_string.f; rw [if_pos (by omega)]; rfl
  | succ d ih =>
   intro i out h1 h2
   refine Ev_suc ?_
   simp only [impl_facesOf.l0]
   have hi : i < L.length := by omega
   have hr : rd_L7 L (i : Int) = L[i] := getD_in L _ i hi
   have h24 := hs L[i] (List.getElem_mem _)
   rw [hr]
   refine Ev_t (by omega) (Ev_t (by omega) (Ev_t (by omega) (inner i L[i] _ h24 (by omega) L[i].length 0 out (by omega) (by omega) ?_)))
   rw [List.drop_zero]
   have := ih (i + 1) (out ++ L[i].map (·.f0)) (by omega) (by simp; omega)
   rw [List.append_assoc, ← List.map_append, ← List.flatten_cons, List.getElem_cons_drop] at this
   exact this
 simp only [impl_facesOf.f]
 exact outer L.length 0 [] (by omega) (by simp)
theorem putE_mem (l : List Ent) (b : Ent) (u : List UInt8) : u ∈ (putE l b).map fcE ↔ u = fcE b ∨ u ∈ l.map fcE := by
 obtain ⟨p, hp⟩ : ∃ p, p = plc (fun x => Go.Lib.compareBytes (fcE x) (fcE b)) l := ⟨_, rfl⟩
 unfold putE putG
 rw [← hp]
 split
 ·rename_i hf
  obtain ⟨h1, h2⟩ := fnd_t hf
  simp only [← hp] at h1 h2
  have h3 : fcE l[p] = fcE b := (cb_ord.zero _ _).1 h2
  have h4 : l.map fcE = (l.take p).map fcE ++ fcE b :: (l.drop (p + 1)).map fcE := by
   rw [← h3, ← List.map_cons, ← List.map_append, List.getElem_cons_drop, List.take_append_drop]
  rw [h4]
  simp only [List.map_append, List.map_cons, List.mem_append, List.mem_cons]
  constructor
  ·rintro (h | h | h)
   ·exact .inr (.inl h)
   ·exact .inl h
   ·exact .inr (.inr (.inr h))
  ·rintro (h | h | h | h)
   ·exact .inr (.inl h)
   ·exact .inl h
   ·exact .inr (.inl h)
   ·exact .inr (.inr h)
 ·have h4 : l.map fcE = (l.take p).map fcE ++ (l.drop p).map fcE := by rw [← List.map_append, List.take_append_drop]
  rw [h4]
  simp only [List.map_append, List.map_cons, List.mem_append, List.mem_cons]
  constructor
  ·rintro (h | h | h)
   ·exact .inr (.inl h)
   ·exact .inl h
   ·exact .inr (.inr h)
  ·rintro (h | h | h)
   ·exact .inr (.inl h)
   ·exact .inl h
   ·exact .inr (.inr h)
theorem fold_mem : ∀ (L acc : List Ent) (u : List UInt8), u ∈ (L.foldl putE acc).map fcE ↔ u ∈ acc.map fcE ∨ u ∈ L.map fcE
 | [], acc, u => by simp
 | b :: L, acc, u => by
  rw [List.foldl_cons, fold_mem L, putE_mem, List.map_cons, List.mem_cons]
  constructor
  ·rintro ((h | h) | h)
   ·exact .inr (.inl h)
   ·exact .inl h
   ·exact .inr (.inr h)
  ·rintro (h | h | h)
   ·exact .inl (.inr h)
   ·exact .inl (.inl h)
   ·exact .inr h
theorem fold_ris : ∀ (L acc : List Ent), risE acc → risE (L.foldl putE acc)
 | [], _, h => h
 | b :: L, acc, h => fold_ris L _ (putG_pw cb_ord h b)
theorem sfaces_ev (x y z : List Ent) (hx : x.length ≤ 24) (hy : y.length ≤ 24) (hz : z.length ≤ 24) : Ev (fun k => spec_l27Faces.f k x y z) (((x ++ y ++ z).foldl putE []).map (·.f0)) := by
 have last : ∀ (A : List Ent), A.length ≤ 1000 → ∀ (d i : Nat) (out : List ByteArray), i + d = A.length → out.length ≤ i → Ev (fun k => spec_l27Faces.l3 k A out i) (out ++ (A.drop i).map (·.f0)) := by
  intro A hA d
  induction d with
  | zero =>
   intro i out h1 h2
   refine Ev_suc ?_
   simp only [spec_l27Faces.l3]
   rw [List.drop_of_length_le (by omega), List.map_nil, List.append_nil]
   exact Ev_f (by omega) (Ev_n rfl)
  | succ d ih =>
   intro i out h1 h2
   refine Ev_suc ?_
   simp only [spec_l27Faces.l3]
   rw [wr64s i (by omega), rdi_Entry A i (by omega)]
   have := ih (i + 1) (out ++ [A[i].f0]) (by omega) (by simp; omega)
   rw [List.append_assoc, List.singleton_append, ← List.map_cons, List.getElem_cons_drop] at this
   exact Ev_t (by omega) (Ev_t (by omega) (Ev_t (by omega) this))
 have set : ∀ (acc : List Ent) (b : Ent), risE acc → acc.length ≤ 1000 → Ev (fun k => spec_l27Set.f k acc b.f0 b.f1.f0 b.f1.f1 b.f1.f2) (putE acc b) := fun acc b h1 h2 => setE_ev acc (by omega) b (rsgG cb_ord h1 (fcE b))
 have len : ∀ (acc : List Ent) (b : Ent), (putE acc b).length ≤ acc.length + 1 := fun acc b => (putG_len (c := Go.Lib.compareBytes) (key := fcE) acc b).1
 have three : ∀ (d i : Nat) (acc : List Ent), i + d = z.length → risE acc → acc.length ≤ 48 + i → Ev (fun k => spec_l27Faces.l2 k z acc i) (((z.drop i).foldl putE acc).map (·.f0)) := by
  intro d
  induction d with
  | zero =>
   intro i acc h1 h2 h3
   refine Ev_suc ?_
   simp only [spec_l27Faces.l2]
   rw [List.drop_of_length_le (by omega), List.foldl_nil]
   have := last acc (by omega) acc.length 0 [] (by omega) (by simp)
   rw [List.drop_zero, List.nil_append] at this
   exact Ev_f (by omega) this
  | succ d ih =>
   intro i acc h1 h2 h3
   refine Ev_suc ?_
   simp only [spec_l27Faces.l2]
   have l1 := len acc z[i]
   rw [wr64s i (by omega), rdi_Entry z i (by omega), List.drop_eq_getElem_cons (show i < z.length by omega), List.foldl_cons]
   exact Ev_t (by omega) (Ev_t (by omega) (Ev_b (set acc z[i] h2 (by omega)) (ih (i + 1) _ (by omega) (putG_pw cb_ord h2 _) (by omega))))
 have two : ∀ (d i : Nat) (acc : List Ent), i + d = y.length → risE acc → acc.length ≤ 24 + i → Ev (fun k => spec_l27Faces.l1 k y z acc i) (((y.drop i ++ z).foldl putE acc).map (·.f0)) := by
  intro d
  induction d with
  | zero =>
   intro i acc h1 h2 h3
   refine Ev_suc ?_
   simp only [spec_l27Faces.l1]
   rw [List.drop_of_length_le (by omega), List.nil_append]
   exact Ev_f (by omega) (three z.length 0 acc (by omega) h2 (by omega))
  | succ d ih =>
   intro i acc h1 h2 h3
   refine Ev_suc ?_
   simp only [spec_l27Faces.l1]
   have l1 := len acc y[i]
   rw [wr64s i (by omega), rdi_Entry y i (by omega), List.drop_eq_getElem_cons (show i < y.length by omega), List.cons_append, List.foldl_cons]
   exact Ev_t (by omega) (Ev_t (by omega) (Ev_b (set acc y[i] h2 (by omega)) (ih (i + 1) _ (by omega) (putG_pw cb_ord h2 _) (by omega))))
 have one : ∀ (d i : Nat) (acc : List Ent), i + d = x.length → risE acc → acc.length ≤ i → Ev (fun k => spec_l27Faces.l0 k x y z acc i) (((x.drop i ++ y ++ z).foldl putE acc).map (·.f0)) := by
  intro d
  induction d with
  | zero =>
   intro i acc h1 h2 h3
   refine Ev_suc ?_
   simp only [spec_l27Faces.l0]
   rw [List.drop_of_length_le (by omega), List.nil_append]
   exact Ev_f (by omega) (two y.length 0 acc (by omega) h2 (by omega))
  | succ d ih =>
   intro i acc h1 h2 h3
   refine Ev_suc ?_
   simp only [spec_l27Faces.l0]
   have l1 := len acc x[i]
   rw [wr64s i (by omega), rdi_Entry x i (by omega), List.drop_eq_getElem_cons (show i < x.length by omega), List.cons_append, List.cons_append, List.foldl_cons]
   exact Ev_t (by omega) (Ev_t (by omega) (Ev_b (set acc x[i] h2 (by omega)) (ih (i + 1) _ (by omega) (putG_pw cb_ord h2 _) (by omega))))
 simp only [spec_l27Faces.f]
 exact one x.length 0 [] (by omega) List.Pairwise.nil (by simp)
theorem faces_eq (L : List Ent) : (L.foldl putE []).map (·.f0) = fcs (L.map (·.f0)) := by
 refine map_bL_inj (fs_uniq _ _ ?_ (fcs_pw _) (fun u => ?_))
 ·have h := fold_ris L [] List.Pairwise.nil
  rw [List.map_map]
  refine List.pairwise_map.2 (h.imp fun {a b} hab => ?_)
  exact (fs_lt _ _).2 hab
 ·rw [fcs_memb, List.map_map, List.map_map]
  have := fold_mem L [] u
  simpa [fcE, Function.comp_def, bL] using this
end Go.Proofs.Ytiheginanghhjaa.Q
namespace Go.Proofs.Ytiheginanghhjaa.Q
open Go.RowKit Go.Proofs.YtiheginanghhjaaW.PrintWords Go.Proofs.YtiheginanghhjaaW.PrintLast Go.Proofs.YtiheginanghhjaaW.PrintMore
attribute [local go_sem] max2_int min2_int max_two min_two max_three min_three max_four min_four
set_option linter.unusedVariables false
set_option linter.unusedSimpArgs false
def spec_ClashesOf.f (k : Nat) (l0 : List (S63)) (l1 : List (S63)) (l2 : List (S63)) : Option (List ByteArray × Int) := (spec_l27State.f k l0).bind fun t101 => (if t101 = true then ((spec_l27State.f k l1).bind fun t102 => (if t102 = true then ((spec_l27State.f k l2).bind fun t103 => (if t103 = true then ((spec_l27Clashes.f k l0 l1 l2).bind fun t104 => (some (t104, 0))) else (some (([] : List ByteArray), 1)))) else (some (([] : List ByteArray), 1)))) else (some (([] : List ByteArray), 1)))
set_option maxHeartbeats 8000000 in
set_option maxRecDepth 100000 in
theorem spec_ClashesOf.calls (k : Nat) (A0 : Option Addr) (c0 : Nat) (l0 : List (S63)) (A1 : Option Addr) (c1 : Nat) (l1 : List (S63)) (A2 : Option Addr) (c2 : Nat) (l2 : List (S63)) (r1 : List ByteArray) (r2 : Int) (w : World) (hr0 : Kd.C k63 w A0 l0.length l0) (hc0 : l0.length ≤ c0) (hr1 : Kd.C k63 w A1 l1.length l1) (hc1 : l1.length ≤ c1) (hr2 : Kd.C k63 w A2 l2.length l2) (hc2 : l2.length ≤ c2) (h : spec_ClashesOf.f k l0 l1 l2 = some (r1, r2)) :
  Calls Try.prog 8 #[.slice A0 l0.length c0, .slice A1 l1.length c1, .slice A2 l2.length c2] w fun e w' => ∃ v0_ : Value, e = .returned (.tuple #[v0_, .int .i64 r2]) ∧ Kd.R Kd.string 9 w' w.heap.size (fun _ => True) v0_ r1 ∧ Below w.heap.size w w' := by
 have HR0 := Aside0.mk hr0
 have HC0 := Aside0.mk hc0
 clear hr0 hc0
 have HR1 := Aside0.mk hr1
 have HC1 := Aside0.mk hc1
 clear hr1 hc1
 have HR2 := Aside0.mk hr2
 have HC2 := Aside0.mk hc2
 clear hr2 hc2
 have HB := Aside0.mk (Below.refl w.heap.size w)
 have H : ((spec_l27State.f k l0).bind fun t101 => (if t101 = true then ((spec_l27State.f k l1).bind fun t102 => (if t102 = true then ((spec_l27State.f k l2).bind fun t103 => (if t103 = true then ((spec_l27Clashes.f k l0 l1 l2).bind fun t104 => (some (t104, 0))) else (some (([] : List ByteArray), 1)))) else (some (([] : List ByteArray), 1)))) else (some (([] : List ByteArray), 1)))) = some (r1, r2) := h
 clear h
 replace H := Option.bind_eq_some_iff.mp H
 obtain ⟨t101, A40, H⟩ := H
 (try dsimp only at H)
 have A4 := Aside0.mk A40
 clear A40
 by_cases c5 : t101 = true
 rotate_left
 ·replace c5 := Bool.eq_false_iff.mpr c5
  subst c5
  have H1 : (some (([] : List ByteArray), 1)) = some (r1, r2) := by rw [if_neg (show ¬ (false = true) by decide)] at H; exact H
  clear H
  have H := H1
  clear H1
  simp only [Option.some.injEq, Prod.mk.injEq] at H
  obtain ⟨rfl, rfl⟩ := H
  go_enter Try.func8, Try.ntmps8
  go_wp2_with (first | ((with_reducible refine gate_callee (f := 36) rfl ?_); refine goesL_ (some 9) rfl rfl Try.func36 (by kernel_rfl) rfl #[.slice A0 l0.length c0] rfl (by first | rfl | (simp only [List.map_toArray, List.map_cons, List.map_nil]; first | done | rfl)) ?_; (with_reducible refine (spec_l27State.calls k _ _ l0 false _ ?side1 ?side2 A4.out).mono ?_); (case side1 => repeat (first | exact HR0.out | (with_reducible first | refine Kd.C_alloc ?_ _ | refine Kd.C_drewN ?_ _ | refine Kd.C_drew ?_))); (case side2 => exact HC0.out); rintro e w18 ⟨rfl, hb⟩; refine ⟨_, rfl, ?_⟩; have n0_ := Aside0.mk (below_step (by repeat (first | (with_reducible first | exact HB.out | apply bA_ | apply bN_ | apply bD_))) hb); clear HB; have HB := n0_; clear n0_; (try clear hb)))
  go_ret2
  exact ⟨_, by first | rfl | (simp [*, errW_none, errW_some] <;> rfl), by first | exact Kd.R_nil _ _ _ _ _ | exact Kd.N_nil _ _ _ _ _ | exact Kd.V_nil _ _ _ _ _ | exact Kd.Q_nil _ _ _ _ _ | exact Kd.S_nil _ _ _ _ _, by repeat (first | (with_reducible first | exact HB.out | apply bA_ | apply bN_ | apply bD_))⟩
 subst c5
 have H1 : ((spec_l27State.f k l1).bind fun t102 => (if t102 = true then ((spec_l27State.f k l2).bind fun t103 => (if t103 = true then ((spec_l27Clashes.f k l0 l1 l2).bind fun t104 => (some (t104, 0))) else (some (([] : List ByteArray), 1)))) else (some (([] : List ByteArray), 1)))) = some (r1, r2) := by rw [if_pos rfl] at H; exact H
 clear H
 have H := H1
 clear H1
 replace H := Option.bind_eq_some_iff.mp H
 obtain ⟨t102, A60, H⟩ := H
 (try dsimp only at H)
 have A6 := Aside0.mk A60
 clear A60
 by_cases c7 : t102 = true
 rotate_left
 ·replace c7 := Bool.eq_false_iff.mpr c7
  subst c7
  have H1 : (some (([] : List ByteArray), 1)) = some (r1, r2) := by rw [if_neg (show ¬ (false = true) by decide)] at H; exact H
  clear H
  have H := H1
  clear H1
  simp only [Option.some.injEq, Prod.mk.injEq] at H
  obtain ⟨rfl, rfl⟩ := H
  go_enter Try.func8, Try.ntmps8
  go_wp2_with (first | ((with_reducible refine gate_callee (f := 36) rfl ?_); refine goesL_ (some 9) rfl rfl Try.func36 (by kernel_rfl) rfl #[.slice A0 l0.length c0] rfl (by first | rfl | (simp only [List.map_toArray, List.map_cons, List.map_nil]; first | done | rfl)) ?_; (with_reducible refine (spec_l27State.calls k _ _ l0 true _ ?side1 ?side2 A4.out).mono ?_); (case side1 => repeat (first | exact HR0.out | (with_reducible first | refine Kd.C_alloc ?_ _ | refine Kd.C_drewN ?_ _ | refine Kd.C_drew ?_))); (case side2 => exact HC0.out); rintro e w16 ⟨rfl, hb⟩; refine ⟨_, rfl, ?_⟩; have n0_ := Aside0.mk (below_step (by repeat (first | (with_reducible first | exact HB.out | apply bA_ | apply bN_ | apply bD_))) hb); clear HB; have HB := n0_; clear n0_; (try clear hb)) | (go_at_call 36; (with_reducible refine (spec_l27State.calls k _ _ l1 false _ ?side1 ?side2 A6.out).mono ?_); (case side1 => repeat (first | exact (Kd.C_below HR1.out HB.out) | (with_reducible first | refine Kd.C_alloc ?_ _ | refine Kd.C_drewN ?_ _ | refine Kd.C_drew ?_))); (case side2 => exact HC1.out); rintro e w17 ⟨rfl, hb⟩; have n0_ := Aside0.mk (below_step (by repeat (first | (with_reducible first | exact HB.out | apply bA_ | apply bN_ | apply bD_))) hb); clear HB; have HB := n0_; clear n0_; (try clear hb)))
  go_ret2
  exact ⟨_, by first | rfl | (simp [*, errW_none, errW_some] <;> rfl), by first | exact Kd.R_nil _ _ _ _ _ | exact Kd.N_nil _ _ _ _ _ | exact Kd.V_nil _ _ _ _ _ | exact Kd.Q_nil _ _ _ _ _ | exact Kd.S_nil _ _ _ _ _, by repeat (first | (with_reducible first | exact HB.out | apply bA_ | apply bN_ | apply bD_))⟩
 subst c7
 have H1 : ((spec_l27State.f k l2).bind fun t103 => (if t103 = true then ((spec_l27Clashes.f k l0 l1 l2).bind fun t104 => (some (t104, 0))) else (some (([] : List ByteArray), 1)))) = some (r1, r2) := by rw [if_pos rfl] at H; exact H
 clear H
 have H := H1
 clear H1
 replace H := Option.bind_eq_some_iff.mp H
 obtain ⟨t103, A80, H⟩ := H
 (try dsimp only at H)
 have A8 := Aside0.mk A80
 clear A80
 have HC9 := Aside0.mk H
 clear H
 go_enter Try.func8, Try.ntmps8
 go_upto_if 20 with (first | ((with_reducible refine gate_callee (f := 36) rfl ?_); refine goesL_ (some 9) rfl rfl Try.func36 (by kernel_rfl) rfl #[.slice A0 l0.length c0] rfl (by first | rfl | (simp only [List.map_toArray, List.map_cons, List.map_nil]; first | done | rfl)) ?_; (with_reducible refine (spec_l27State.calls k _ _ l0 true _ ?side1 ?side2 A4.out).mono ?_); (case side1 => repeat (first | exact HR0.out | (with_reducible first | refine Kd.C_alloc ?_ _ | refine Kd.C_drewN ?_ _ | refine Kd.C_drew ?_))); (case side2 => exact HC0.out); rintro e w10 ⟨rfl, hb⟩; refine ⟨_, rfl, ?_⟩; have n0_ := Aside0.mk (below_step (by repeat (first | (with_reducible first | exact HB.out | apply bA_ | apply bN_ | apply bD_))) hb); clear HB; have HB := n0_; clear n0_; (try clear hb)) | (go_at_call 36; (with_reducible refine (spec_l27State.calls k _ _ l1 true _ ?side1 ?side2 A6.out).mono ?_); (case side1 => repeat (first | exact (Kd.C_below HR1.out HB.out) | (with_reducible first | refine Kd.C_alloc ?_ _ | refine Kd.C_drewN ?_ _ | refine Kd.C_drew ?_))); (case side2 => exact HC1.out); rintro e w11 ⟨rfl, hb⟩; have n0_ := Aside0.mk (below_step (by repeat (first | (with_reducible first | exact HB.out | apply bA_ | apply bN_ | apply bD_))) hb); clear HB; have HB := n0_; clear n0_; (try clear hb)) | (go_at_call 36; (with_reducible refine (spec_l27State.calls k _ _ l2 t103 _ ?side1 ?side2 A8.out).mono ?_); (case side1 => repeat (first | exact (Kd.C_below HR2.out HB.out) | (with_reducible first | refine Kd.C_alloc ?_ _ | refine Kd.C_drewN ?_ _ | refine Kd.C_drew ?_))); (case side2 => exact HC2.out); rintro e w12 ⟨rfl, hb⟩; have n0_ := Aside0.mk (below_step (by repeat (first | (with_reducible first | exact HB.out | apply bA_ | apply bN_ | apply bD_))) hb); clear HB; have HB := n0_; clear n0_; (try clear hb)))
 (try simp only [Act.put, List.setIfInBounds_toArray, List.set_cons_zero, List.set_cons_succ])
 have H := HC9.out
 clear HC9
 by_cases c13 : t103 = true
 rotate_left
 ·replace c13 := Bool.eq_false_iff.mpr c13
  subst c13
  have H1 : (some (([] : List ByteArray), 1)) = some (r1, r2) := by rw [if_neg (show ¬ (false = true) by decide)] at H; exact H
  clear H
  have H := H1
  clear H1
  simp only [Option.some.injEq, Prod.mk.injEq] at H
  obtain ⟨rfl, rfl⟩ := H
  go_wp2
  go_ret2
  exact ⟨_, by first | rfl | (simp [*, errW_none, errW_some] <;> rfl), by first | exact Kd.R_nil _ _ _ _ _ | exact Kd.N_nil _ _ _ _ _ | exact Kd.V_nil _ _ _ _ _ | exact Kd.Q_nil _ _ _ _ _ | exact Kd.S_nil _ _ _ _ _, by repeat (first | (with_reducible first | exact HB.out | apply bA_ | apply bN_ | apply bD_))⟩
 subst c13
 have H1 : ((spec_l27Clashes.f k l0 l1 l2).bind fun t104 => (some (t104, 0))) = some (r1, r2) := by rw [if_pos rfl] at H; exact H
 clear H
 have H := H1
 clear H1
 replace H := Option.bind_eq_some_iff.mp H
 obtain ⟨t104, A140, H⟩ := H
 (try dsimp only at H)
 have A14 := Aside0.mk A140
 clear A140
 simp only [Option.some.injEq, Prod.mk.injEq] at H
 obtain ⟨rfl, rfl⟩ := H
 go_wp2_with (first | ((with_reducible refine gate_callee (f := 37) rfl ?_); refine goesL_ (some 24) rfl rfl Try.func37 (by kernel_rfl) rfl #[.slice A0 l0.length c0, .slice A1 l1.length c1, .slice A2 l2.length c2] rfl (by first | rfl | (simp only [List.map_toArray, List.map_cons, List.map_nil]; first | done | rfl)) ?_; (with_reducible refine (spec_l27Clashes.calls k _ _ l0 _ _ l1 _ _ l2 t104 _ ?side1 ?side2 ?side3 ?side4 ?side5 ?side6 A14.out).mono ?_); (case side1 => repeat (first | exact (Kd.C_below HR0.out (by repeat (first | (with_reducible first | exact HB.out | apply bA_ | apply bN_ | apply bD_)))) | (with_reducible first | refine Kd.C_alloc ?_ _ | refine Kd.C_drewN ?_ _ | refine Kd.C_drew ?_))); (case side2 => exact HC0.out); (case side3 => repeat (first | exact (Kd.C_below HR1.out (by repeat (first | (with_reducible first | exact HB.out | apply bA_ | apply bN_ | apply bD_)))) | (with_reducible first | refine Kd.C_alloc ?_ _ | refine Kd.C_drewN ?_ _ | refine Kd.C_drew ?_))); (case side4 => exact HC1.out); (case side5 => repeat (first | exact (Kd.C_below HR2.out (by repeat (first | (with_reducible first | exact HB.out | apply bA_ | apply bN_ | apply bD_)))) | (with_reducible first | refine Kd.C_alloc ?_ _ | refine Kd.C_drewN ?_ _ | refine Kd.C_drew ?_))); (case side6 => exact HC2.out); rintro e w15 ⟨v105, rfl, ho0, hb⟩; refine ⟨_, rfl, ?_⟩; have n0_ := Aside0.mk (Kd.R_lower ho0 (below_size (by repeat (first | (with_reducible first | exact HB.out | apply bA_ | apply bN_ | apply bD_))))); have n1_ := Aside0.mk (below_step (by repeat (first | (with_reducible first | exact HB.out | apply bA_ | apply bN_ | apply bD_))) hb); clear HB; have HO106 := n0_; have HB := n1_; clear n0_ n1_; (try clear hb); (try clear ho0)))
 go_ret2
 exact ⟨_, by first | rfl | (simp [*, errW_none, errW_some] <;> rfl), by (with_reducible repeat (first | apply Kd.R_alloc | apply Kd.R_drewN | apply Kd.R_drew)); exact HO106.out, by repeat (first | (with_reducible first | exact HB.out | apply bA_ | apply bN_ | apply bD_))⟩
end Go.Proofs.Ytiheginanghhjaa.Q
namespace Go.Proofs.Ytiheginanghhjaa.Q
open Go.RowKit Go.Proofs.YtiheginanghhjaaW.PrintWords Go.Proofs.YtiheginanghhjaaW.PrintLast Go.Proofs.YtiheginanghhjaaW.PrintMore
def zE : Ent := ⟨(⟨#[]⟩ : ByteArray), ⟨(⟨#[]⟩ : ByteArray), 0, 0⟩⟩
def gE (m : List Ent) (u : ByteArray) : Ent := if fnd (fun x => Go.Lib.compareBytes (fcE x) u.data.toList) m = true then m.getD (plc (fun x => Go.Lib.compareBytes (fcE x) u.data.toList) m) zE else zE
def Stn (m : List Ent) : Prop := Sta m ∧ ∀ y ∈ m, y.f0.toList ≠ []
theorem name_ne (k : Nat) (x : ByteArray) (h : spec_l01Name.f k x = some true) : x.toList ≠ [] := by
 intro e
 simp only [spec_l01Name.f] at h
 rw [if_pos e] at h
 cases k with
 | zero => simp [spec_l01Name.j0] at h
 | succ k => simp [spec_l01Name.j0] at h
theorem state_ne (m : List Ent) : ∀ (k i : Nat), spec_l27State.l0 k m i = some true → ∀ (j : Nat) (hj : j < m.length), i ≤ j → m.length < 1000000 → m[j].f0.toList ≠ []
 | 0, i, h, _, _, _, _ => by simp [spec_l27State.l0] at h
 | k + 1, i, h, j, hj, hij, hm => by
  simp only [spec_l27State.l0] at h
  rw [if_pos (by omega), if_pos (by omega), wr64s i (by omega), rdi_Entry m i (by omega)] at h
  obtain ⟨t, h1, h2⟩ := Option.bind_eq_some_iff.1 h
  cases t with
  | false => simp at h2
  | true =>
   rw [if_pos rfl] at h2
   have nx : spec_l27State.l0 k m ((i + 1 : Nat) : Int) = some true := by
    split at h2
    ·split at h2
     ·split at h2
      ·split at h2
       ·exact h2
       ·simp at h2
      ·cases h2
     ·cases h2
    ·exact h2
   have hn : m[i].f0.toList ≠ [] := by
    have r0 : rd_T63 [m[i]'(by omega)] 0 = m[i]'(by omega) := rfl
    simp only [spec_l27Entry.f, r0] at h1
    rw [if_pos (by simp)] at h1
    obtain ⟨t2, g1, g2⟩ := Option.bind_eq_some_iff.1 h1
    cases t2 with
    | false => simp at g2
    | true => exact name_ne k _ g1
   rcases Nat.lt_or_eq_of_le hij with g | g
   ·exact state_ne m k (i + 1) nx j hj (by omega) hm
   ·subst g; exact hn
theorem stateN_ev (m : List Ent) (hl : (m.length : Int) ≤ 1048576) : ∃ b, Ev (fun k => spec_l27State.f k m) b ∧ Ev (fun k => impl_ValidState.f k m) b ∧ (b = true → Stn m) := by
 obtain ⟨b, h1, h2, h3⟩ := state_ev m hl
 refine ⟨b, h1, h2, fun hb => ?_⟩
 subst hb
 obtain ⟨K, hK⟩ := h1
 have hk := hK K (Nat.le_refl _)
 simp only [spec_l27State.f] at hk
 refine ⟨h3 rfl, fun y hy => ?_⟩
 obtain ⟨j, hj, rfl⟩ := List.mem_iff_getElem.1 hy
 have := (h3 rfl).1
 exact state_ne m K 0 hk j hj (by omega) (by omega)
theorem gE_at (m : List Ent) (u : ByteArray) (h : fnd (fun x => Go.Lib.compareBytes (fcE x) u.data.toList) m = true) : ∃ hp : plc (fun x => Go.Lib.compareBytes (fcE x) u.data.toList) m < m.length, gE m u = m[plc (fun x => Go.Lib.compareBytes (fcE x) u.data.toList) m]'hp ∧ fcE (m[plc (fun x => Go.Lib.compareBytes (fcE x) u.data.toList) m]'hp) = u.data.toList := by
 obtain ⟨hp, h0⟩ := fnd_t h
 refine ⟨hp, ?_, (cb_ord.zero _ _).1 h0⟩
 unfold gE
 rw [if_pos h]
 simp [List.getD, hp]
theorem getS_ev (m : List Ent) (hs : Sta m) (u : ByteArray) : Ev (fun k => spec_l27Get.f k m u) ((gE m u).f0, (gE m u).f1.f0, (gE m u).f1.f1, (gE m u).f1.f2) := by
 have h24 := hs.1
 have f1 := findE_ev m (by omega) u (hs.rsg _)
 simp only [spec_l27Get.f]
 cases hf : fnd (fun x => Go.Lib.compareBytes (fcE x) u.data.toList) m with
 | false =>
  rw [hf, if_neg (by decide)] at f1
  have e : gE m u = zE := by unfold gE; rw [hf]; rfl
  rw [e]
  exact Ev_b f1 (Ev_t (by decide) (Ev_n rfl))
 | true =>
  obtain ⟨hp, e, _⟩ := gE_at m u hf
  rw [hf, if_pos rfl] at f1
  refine Ev_b f1 (Ev_f (by omega) (Ev_t (by omega) (Ev_t (by omega) (Ev_n ?_))))
  rw [e, rdi_Entry m _ hp]
theorem getI_ev (m : List Ent) (hs : Sta m) (u : ByteArray) : Ev (fun k => impl_veneerAt.f k m u) ((gE m u).f1.f0, (gE m u).f1.f1, (gE m u).f1.f2) := by
 have h24 := hs.1
 have f2 := placeE_ev m (by omega) u (hs.rsg _)
 simp only [impl_veneerAt.f]
 cases hf : fnd (fun x => Go.Lib.compareBytes (fcE x) u.data.toList) m with
 | false =>
  rw [hf] at f2
  have e : gE m u = zE := by unfold gE; rw [hf]; rfl
  rw [e]
  exact Ev_b f2 (Ev_f (by simp) (Ev_n rfl))
 | true =>
  obtain ⟨hp, e, _⟩ := gE_at m u hf
  rw [hf] at f2
  refine Ev_b f2 (Ev_t rfl (Ev_t (by show (0 : Int) ≤ _; omega) (Ev_t (by show _ < (m.length : Int); omega) (Ev_n ?_))))
  simp only
  rw [e, rdi_Entry m _ hp]
theorem gE_cases (m : List Ent) (hs : Stn m) (u : ByteArray) : (gE m u = zE ∧ u ∉ m.map (·.f0)) ∨ ((gE m u).f0 = u ∧ (gE m u).f1.f0.toList ≠ [] ∧ u.toList ≠ [] ∧ u ∈ m.map (·.f0)) := by
 cases hf : fnd (fun x => Go.Lib.compareBytes (fcE x) u.data.toList) m with
 | false =>
  refine .inl ⟨by unfold gE; rw [hf]; rfl, fun h => ?_⟩
  obtain ⟨y, hy, e⟩ := List.mem_map.1 h
  obtain ⟨i, hi, rfl⟩ := List.mem_iff_getElem.1 hy
  have := fnd_f (hs.1.rsg u.data.toList) hf i hi
  apply this
  rw [cb_ord.zero]
  simp only [fcE]
  rw [← e]
 | true =>
  obtain ⟨hp, e, h0⟩ := gE_at m u hf
  have e2 : (m[plc (fun x => Go.Lib.compareBytes (fcE x) u.data.toList) m]'hp).f0 = u := bL_inj h0
  rw [e]
  refine .inr ⟨e2, ven_ne (hs.1.2.2 _ (List.getElem_mem _)), ?_, List.mem_map.2 ⟨_, List.getElem_mem hp, e2⟩⟩
  rw [← e2]
  exact hs.2 _ (List.getElem_mem _)
def dE (x y : Ent) : Bool := (!(x.f0.toList == y.f0.toList) || ((!(x.f1.f0.toList == y.f1.f0.toList) || (!(x.f1.f1 == y.f1.f1) || (!(x.f1.f2 == y.f1.f2))))))
def dV (x y : Ent) : Bool := (!(x.f1.f0.toList == y.f1.f0.toList) || (!(x.f1.f1 == y.f1.f1) || (!(x.f1.f2 == y.f1.f2))))
theorem dE_comm (x y : Ent) : dE x y = dE y x := by
 have h1 : (x.f0.toList == y.f0.toList) = (y.f0.toList == x.f0.toList) := Bool.beq_comm
 have h2 : (x.f1.f0.toList == y.f1.f0.toList) = (y.f1.f0.toList == x.f1.f0.toList) := Bool.beq_comm
 have h3 : (x.f1.f1 == y.f1.f1) = (y.f1.f1 == x.f1.f1) := Bool.beq_comm
 have h4 : (x.f1.f2 == y.f1.f2) = (y.f1.f2 == x.f1.f2) := Bool.beq_comm
 unfold dE
 rw [h1, h2, h3, h4]
theorem zt : (zE.f0.toList = []) ∧ (zE.f1.f0.toList = []) := by
 constructor <;> (show (⟨#[]⟩ : ByteArray).toList = []; rw [Go.ByteArray.toList_eq])
theorem dV_eq (m n : List Ent) (hm : Stn m) (hn : Stn n) (u : ByteArray) : dV (gE m u) (gE n u) = dE (gE m u) (gE n u) := by
 rcases gE_cases m hm u with ⟨a, _⟩ | ⟨a1, a2, a3, _⟩
 ·rcases gE_cases n hn u with ⟨b, _⟩ | ⟨b1, b2, b3, _⟩
  ·rw [a, b]; simp [dV, dE]
  ·rw [a]
   have h : dV zE (gE n u) = true := by simp [dV, zt.2, b2]
   have h2 : dE zE (gE n u) = true := by simp [dE, zt.1, b1, b3]
   rw [h, h2]
 ·rcases gE_cases n hn u with ⟨b, _⟩ | ⟨b1, b2, b3, _⟩
  ·rw [b]
   have h : dV (gE m u) zE = true := by simp [dV, zt.2, a2]
   have h2 : dE (gE m u) zE = true := by simp [dE, zt.1, a1, a3]
   rw [h, h2]
  ·simp [dV, dE, a1, b1]
def clE (base a b : List Ent) (u : ByteArray) : Bool := dE (gE base u) (gE a u) && (dE (gE base u) (gE b u) && dE (gE a u) (gE b u))
theorem rdB (l : List ByteArray) (i : Nat) (h : i < l.length) : rdOf ByteArray.empty l (i : Int) = l[i] := getD_in l _ i h
theorem sclash_ev (base a b : List Ent) (h0 : Stn base) (h1 : Stn a) (h2 : Stn b) : Ev (fun k => spec_l27Clashes.f k base a b) ((fcs ((base ++ a ++ b).map (·.f0))).filter (clE base a b)) := by
 have l0 := h0.1.1
 have l1 := h1.1.1
 have l2 := h2.1.1
 have f := sfaces_ev base a b l0 l1 l2
 rw [faces_eq] at f
 have fl := fcs_len ((base ++ a ++ b).map (·.f0))
 simp only [List.length_map, List.length_append] at fl
 generalize fcs ((base ++ a ++ b).map (·.f0)) = F at f fl
 have go : ∀ (d i : Nat) (out : List ByteArray), i + d = F.length → out.length ≤ i → Ev (fun k => spec_l27Clashes.l0 k base a b F out i) (out ++ (F.drop i).filter (clE base a b)) := by
  intro d
  induction d with
  | zero =>
   intro i out g1 g2
   refine Ev_suc ?_
   simp only [spec_l27Clashes.l0]
   rw [List.drop_of_length_le (by omega), List.filter_nil, List.append_nil]
   exact Ev_f (by omega) (Ev_n rfl)
  | succ d ih =>
   intro i out g1 g2
   refine Ev_suc ?_
   simp only [spec_l27Clashes.l0]
   have hi : i < F.length := by omega
   rw [rdB F i hi, wr64s i (by omega), List.drop_eq_getElem_cons hi]
   refine Ev_t (by omega) (Ev_t (by omega) (Ev_b (getS_ev base h0.1 F[i]) (Ev_b (getS_ev a h1.1 F[i]) (Ev_b (getS_ev b h2.1 F[i]) ?_))))
   have skip : clE base a b F[i] = false → Ev (fun k => spec_l27Clashes.l0 k base a b F out ((i + 1 : Nat) : Int)) (out ++ (F[i] :: F.drop (i + 1)).filter (clE base a b)) := fun hc => by
    rw [List.filter_cons_of_neg (by rw [hc]; decide)]
    exact ih (i + 1) out (by omega) (by omega)
   by_cases c1 : dE (gE base F[i]) (gE a F[i]) = true
   rotate_left
   ·exact Ev_f c1 (skip (by simp [clE, c1]))
   refine Ev_t c1 ?_
   by_cases c2 : dE (gE base F[i]) (gE b F[i]) = true
   rotate_left
   ·exact Ev_f c2 (skip (by simp [clE, c2]))
   refine Ev_t c2 ?_
   by_cases c3 : dE (gE a F[i]) (gE b F[i]) = true
   rotate_left
   ·exact Ev_f c3 (skip (by simp [clE, c3]))
   refine Ev_t c3 (Ev_t (by omega) ?_)
   rw [List.filter_cons_of_pos (by simp [clE, c1, c2, c3])]
   have := ih (i + 1) (out ++ [F[i]]) (by omega) (by simp; omega)
   rwa [List.append_assoc, List.singleton_append] at this
 simp only [spec_l27Clashes.f]
 refine Ev_b f ?_
 have := go F.length 0 [] (by omega) (by simp)
 rwa [List.drop_zero, List.nil_append] at this
theorem iclash_ev (base a b : List Ent) (h0 : Stn base) (h1 : Stn a) (h2 : Stn b) : Ev (fun k => impl_ClashesOf.j0 k base a b false) ((fcs ((base ++ a ++ b).map (·.f0))).filter (clE base a b), 0) := by
 have l0 := h0.1.1
 have l1 := h1.1.1
 have l2 := h2.1.1
 have f := faces_ev [base, a, b] (by simp) (by simp; omega)
 have fe : [base, a, b].flatten = base ++ a ++ b := by simp
 rw [fe] at f
 have fl := fcs_len ((base ++ a ++ b).map (·.f0))
 simp only [List.length_map, List.length_append] at fl
 generalize fcs ((base ++ a ++ b).map (·.f0)) = F at f fl
 have go : ∀ (d i : Nat) (out : List ByteArray), i + d = F.length → out.length ≤ i → Ev (fun k => impl_ClashesOf.l0 k base a b out F (F.length : Int) i) (out ++ (F.drop i).filter (clE base a b), 0) := by
  intro d
  induction d with
  | zero =>
   intro i out g1 g2
   refine Ev_suc ?_
   simp only [impl_ClashesOf.l0]
   rw [List.drop_of_length_le (by omega), List.filter_nil, List.append_nil]
   exact Ev_f (by omega) (Ev_n rfl)
  | succ d ih =>
   intro i out g1 g2
   refine Ev_suc ?_
   simp only [impl_ClashesOf.l0]
   have hi : i < F.length := by omega
   rw [rdB F i hi, wr64s i (by omega), List.drop_eq_getElem_cons hi]
   refine Ev_t (by omega) (Ev_t (by omega) (Ev_t (by omega) (Ev_b (getI_ev base h0.1 F[i]) (Ev_b (getI_ev a h1.1 F[i]) (Ev_b (getI_ev b h2.1 F[i]) ?_)))))
   have skip : clE base a b F[i] = false → Ev (fun k => impl_ClashesOf.l0 k base a b out F (F.length : Int) ((i + 1 : Nat) : Int)) (out ++ (F[i] :: F.drop (i + 1)).filter (clE base a b), 0) := fun hc => by
    rw [List.filter_cons_of_neg (by rw [hc]; decide)]
    exact ih (i + 1) out (by omega) (by omega)
   have e1 := dV_eq a b h1 h2 F[i]
   have e2 := (dV_eq a base h1 h0 F[i]).trans (dE_comm _ _)
   have e3 := (dV_eq b base h2 h0 F[i]).trans (dE_comm _ _)
   by_cases c1 : dV (gE a F[i]) (gE b F[i]) = true
   rotate_left
   ·refine Ev_f c1 (skip ?_)
    rw [e1] at c1
    simp [clE, c1]
   refine Ev_t c1 ?_
   rw [e1] at c1
   by_cases c2 : dV (gE a F[i]) (gE base F[i]) = true
   rotate_left
   ·refine Ev_f c2 (skip ?_)
    rw [e2] at c2
    simp [clE, c2]
   refine Ev_t c2 ?_
   rw [e2] at c2
   by_cases c3 : dV (gE b F[i]) (gE base F[i]) = true
   rotate_left
   ·refine Ev_f c3 (skip ?_)
    rw [e3] at c3
    simp [clE, c3]
   refine Ev_t c3 (Ev_t (by omega) ?_)
   rw [e3] at c3
   rw [List.filter_cons_of_pos (by simp [clE, c1, c2, c3])]
   have := ih (i + 1) (out ++ [F[i]]) (by omega) (by simp; omega)
   rwa [List.append_assoc, List.singleton_append] at this
 refine Ev_suc ?_
 simp only [impl_ClashesOf.j0]
 refine Ev_f (by decide) (Ev_b f ?_)
 have := go F.length 0 [] (by omega) (by simp)
 rwa [List.drop_zero, List.nil_append] at this
theorem three_ev (base a b : List Ent) (g0 : (base.length : Int) ≤ 1048576) (g1 : (a.length : Int) ≤ 1048576) (g2 : (b.length : Int) ≤ 1048576) :
  (Stn base ∧ Stn a ∧ Stn b ∧ (∀ r, Ev (fun k => spec_l27Clashes.f k base a b) r → Ev (fun k => spec_ClashesOf.f k base a b) (r, 0)) ∧ (∀ r, Ev (fun k => spec_l27Merge.f k base a b) r → Ev (fun k => spec_MergeStates.f k base a b) r) ∧ ∀ r, Ev (fun k => impl_ClashesOf.j0 k base a b false) r → Ev (fun k => impl_ClashesOf.f k base a b) r) ∨
  (Ev (fun k => spec_ClashesOf.f k base a b) ([], 1) ∧ Ev (fun k => spec_MergeStates.f k base a b) ([], 1) ∧ Ev (fun k => impl_ClashesOf.f k base a b) ([], 1)) := by
 have no : Ev (fun k => impl_ClashesOf.j0 k base a b true) ([], 1) := by
  refine Ev_suc ?_
  simp only [impl_ClashesOf.j0]
  exact Ev_t (by first | exact True.intro | rfl) (Ev_n rfl)
 obtain ⟨b0, s0, i0, n0⟩ := stateN_ev base g0
 obtain ⟨b1, s1, i1, n1⟩ := stateN_ev a g1
 obtain ⟨b2, s2, i2, n2⟩ := stateN_ev b g2
 simp only [spec_ClashesOf.f, spec_MergeStates.f, impl_ClashesOf.f]
 cases b0 with
 | false => exact .inr ⟨Ev_b s0 (Ev_f (by decide) (Ev_n rfl)), Ev_b s0 (Ev_f (by decide) (Ev_n rfl)), Ev_b i0 (Ev_f (by decide) no)⟩
 | true =>
  cases b1 with
  | false => exact .inr ⟨Ev_b s0 (Ev_t rfl (Ev_b s1 (Ev_f (by decide) (Ev_n rfl)))), Ev_b s0 (Ev_t rfl (Ev_b s1 (Ev_f (by decide) (Ev_n rfl)))), Ev_b i0 (Ev_t rfl (Ev_b i1 (Ev_f (by decide) no)))⟩
  | true =>
   cases b2 with
   | false => exact .inr ⟨Ev_b s0 (Ev_t rfl (Ev_b s1 (Ev_t rfl (Ev_b s2 (Ev_f (by decide) (Ev_n rfl)))))), Ev_b s0 (Ev_t rfl (Ev_b s1 (Ev_t rfl (Ev_b s2 (Ev_f (by decide) (Ev_n rfl)))))), Ev_b i0 (Ev_t rfl (Ev_b i1 (Ev_t rfl (Ev_b i2 no))))⟩
   | true =>
    exact .inl ⟨n0 rfl, n1 rfl, n2 rfl, fun r h => Ev_b s0 (Ev_t rfl (Ev_b s1 (Ev_t rfl (Ev_b s2 (Ev_t rfl (Ev_b h (Ev_n rfl))))))),
     fun r h => Ev_b s0 (Ev_t rfl (Ev_b s1 (Ev_t rfl (Ev_b s2 (Ev_t rfl (Ev_b h (Ev_n rfl))))))),
     fun r h => Ev_b i0 (Ev_t rfl (Ev_b i1 (Ev_t rfl (Ev_b i2 h))))⟩
end Go.Proofs.Ytiheginanghhjaa.Q
namespace Go.Proofs.Ytiheginanghhjaa.Q
open Go.RowKit Go.Proofs.YtiheginanghhjaaW.PrintWords Go.Proofs.YtiheginanghhjaaW.PrintLast Go.Proofs.YtiheginanghhjaaW.PrintMore
theorem dE_sE (x y : Ent) : (x.f0.toList == y.f0.toList && ((x.f1.f0.toList == y.f1.f0.toList && (x.f1.f1 == y.f1.f1 && (x.f1.f2 == y.f1.f2))))) = !dE x y := by
 unfold dE
 simp only [Bool.not_or, Bool.not_not]
theorem dV_sV (x y : Ent) : (x.f1.f0.toList == y.f1.f0.toList && (x.f1.f1 == y.f1.f1 && (x.f1.f2 == y.f1.f2))) = !dV x y := by
 unfold dV
 simp only [Bool.not_or, Bool.not_not]
def pkE (base a b : List Ent) (u : ByteArray) : Ent := if dE (gE a u) (gE base u) = true then gE a u else gE b u
def mgE (base a b : List Ent) (u : ByteArray) : List Ent := if (pkE base a b u).f0.toList = [] then [] else [pkE base a b u]
theorem pk_cases (base a b : List Ent) (h1 : Stn a) (h2 : Stn b) (u : ByteArray) : pkE base a b u = zE ∨ ((pkE base a b u).f0 = u ∧ (pkE base a b u).f1.f0.toList ≠ [] ∧ u.toList ≠ [] ∧ (u ∈ a.map (·.f0) ∨ u ∈ b.map (·.f0))) := by
 unfold pkE
 split
 ·rcases gE_cases a h1 u with ⟨h, _⟩ | ⟨q1, q2, q3, q4⟩
  ·exact .inl h
  ·exact .inr ⟨q1, q2, q3, .inl q4⟩
 ·rcases gE_cases b h2 u with ⟨h, _⟩ | ⟨q1, q2, q3, q4⟩
  ·exact .inl h
  ·exact .inr ⟨q1, q2, q3, .inr q4⟩
theorem smerge_ev (base a b : List Ent) (h0 : Stn base) (h1 : Stn a) (h2 : Stn b) (F : List ByteArray) (fl : F.length ≤ 72) : ∀ (d i : Nat) (out : List Ent), i + d = F.length → out.length ≤ i → Ev (fun k => spec_l27Merge.l0 k base a b F out i) (if (out ++ (F.drop i).flatMap (mgE base a b)).length > 24 then ([], 5) else (out ++ (F.drop i).flatMap (mgE base a b), 0)) := by
 intro d
 induction d with
 | zero =>
  intro i out g1 g2
  refine Ev_suc ?_
  simp only [spec_l27Merge.l0]
  rw [List.drop_of_length_le (by omega), List.flatMap_nil, List.append_nil]
  refine Ev_f (by omega) ?_
  by_cases c : out.length > 24
  rotate_left
  ·rw [if_neg c]; exact Ev_f (by omega) (Ev_n rfl)
  rw [if_pos c]; exact Ev_t (by omega) (Ev_n rfl)
 | succ d ih =>
  intro i out g1 g2
  refine Ev_suc ?_
  simp only [spec_l27Merge.l0]
  have hi : i < F.length := by omega
  rw [rdB F i hi, wr64s i (by omega), List.drop_eq_getElem_cons hi, List.flatMap_cons]
  refine Ev_t (by omega) (Ev_t (by omega) (Ev_b (getS_ev a h1.1 F[i]) (Ev_b (getS_ev base h0.1 F[i]) ?_)))
  have tail : ∀ p : Ent, p = pkE base a b F[i] → Ev (fun n => if p.f0.toList = ([] : List UInt8) then (spec_l27Merge.l0 n base a b F out ((i + 1 : Nat) : Int)) else (if out.length < 2932031007402 then (spec_l27Merge.l0 n base a b F (out ++ [(⟨p.f0, (⟨p.f1.f0, p.f1.f1, p.f1.f2⟩ : S61)⟩ : Ent)]) ((i + 1 : Nat) : Int)) else none)) (if (out ++ (mgE base a b F[i] ++ (F.drop (i + 1)).flatMap (mgE base a b))).length > 24 then ([], 5) else (out ++ (mgE base a b F[i] ++ (F.drop (i + 1)).flatMap (mgE base a b)), 0)) := by
   intro p hp
   have hm : mgE base a b F[i] = if p.f0.toList = [] then [] else [p] := by unfold mgE; rw [← hp]
   by_cases c : p.f0.toList = ([] : List UInt8)
   rotate_left
   ·rw [hm, if_neg c]
    have := ih (i + 1) (out ++ [p]) (by omega) (by simp; omega)
    rw [List.append_assoc] at this
    exact Ev_f c (Ev_t (by omega) this)
   rw [hm, if_pos c, List.nil_append]
   exact Ev_t c (ih (i + 1) out (by omega) (by omega))
  have e := dE_sE (gE a F[i]) (gE base F[i])
  by_cases c : dE (gE a F[i]) (gE base F[i]) = true
  rotate_left
  ·have c' : dE (gE a F[i]) (gE base F[i]) = false := by simpa using c
   rw [c'] at e
   refine Ev_t e (Ev_b (getS_ev b h2.1 F[i]) (tail (gE b F[i]) ?_))
   unfold pkE; rw [if_neg c]
  rw [c] at e
  refine Ev_f (fun q => by rw [e] at q; exact absurd q (by decide)) (tail (gE a F[i]) ?_)
  unfold pkE; rw [if_pos c]
theorem imerge_ev (base a b : List Ent) (h0 : Stn base) (h1 : Stn a) (h2 : Stn b) (F : List ByteArray) (fl : F.length ≤ 72) : ∀ (d i : Nat) (out : List Ent), i + d = F.length → out.length ≤ i → Ev (fun k => impl_MergeStates.l0 k base a b out F (F.length : Int) i) (if (out ++ (F.drop i).flatMap (mgE base a b)).length > 24 then ([], 5) else (out ++ (F.drop i).flatMap (mgE base a b), 0)) := by
 intro d
 induction d with
 | zero =>
  intro i out g1 g2
  refine Ev_suc ?_
  simp only [impl_MergeStates.l0]
  rw [List.drop_of_length_le (by omega), List.flatMap_nil, List.append_nil]
  refine Ev_f (by omega) ?_
  by_cases c : out.length > 24
  rotate_left
  ·rw [if_neg c]; exact Ev_f (by omega) (Ev_n rfl)
  rw [if_pos c]; exact Ev_t (by omega) (Ev_n rfl)
 | succ d ih =>
  intro i out g1 g2
  refine Ev_suc ?_
  simp only [impl_MergeStates.l0]
  have hi : i < F.length := by omega
  rw [rdB F i hi, wr64s i (by omega), List.drop_eq_getElem_cons hi, List.flatMap_cons]
  refine Ev_t (by omega) (Ev_t (by omega) (Ev_t (by omega) (Ev_b (getI_ev a h1.1 F[i]) (Ev_b (getI_ev base h0.1 F[i]) ?_))))
  have tail : ∀ p : Ent, p = pkE base a b F[i] → Ev (fun n => if (!(p.f1.f0.toList == ([] : List UInt8)) || (!(p.f1.f1 == 0) || (!(p.f1.f2 == 0)))) = true then (if out.length < 2932031007402 then (impl_MergeStates.l0 n base a b (out ++ [(⟨F[i], (⟨p.f1.f0, p.f1.f1, p.f1.f2⟩ : S61)⟩ : Ent)]) F (F.length : Int) ((i + 1 : Nat) : Int)) else none) else (impl_MergeStates.l0 n base a b out F (F.length : Int) ((i + 1 : Nat) : Int))) (if (out ++ (mgE base a b F[i] ++ (F.drop (i + 1)).flatMap (mgE base a b))).length > 24 then ([], 5) else (out ++ (mgE base a b F[i] ++ (F.drop (i + 1)).flatMap (mgE base a b)), 0)) := by
   intro p hp
   have hm : mgE base a b F[i] = if p.f0.toList = [] then [] else [p] := by unfold mgE; rw [← hp]
   rcases pk_cases base a b h1 h2 F[i] with g | ⟨q1, q2, q3, _⟩
   ·rw [← hp] at g
    have hz : p.f0.toList = [] := by rw [g]; exact zt.1
    rw [hm, if_pos hz, List.nil_append]
    refine Ev_f ?_ (ih (i + 1) out (by omega) (by omega))
    rw [g, zt.2]
    decide
   ·rw [← hp] at q1 q2
    have hz : p.f0.toList ≠ [] := by rw [q1]; exact q3
    rw [hm, if_neg hz]
    have := ih (i + 1) (out ++ [p]) (by omega) (by simp; omega)
    rw [List.append_assoc] at this
    refine Ev_t (by simp [q2]) (Ev_t (by omega) ?_)
    rw [← q1]
    exact this
  have e := dV_sV (gE a F[i]) (gE base F[i])
  rw [dV_eq a base h1 h0] at e
  by_cases c : dE (gE a F[i]) (gE base F[i]) = true
  rotate_left
  ·have c' : dE (gE a F[i]) (gE base F[i]) = false := by simpa using c
   rw [c'] at e
   refine Ev_t e (Ev_b (getI_ev b h2.1 F[i]) (tail (gE b F[i]) ?_))
   unfold pkE; rw [if_neg c]
  rw [c] at e
  refine Ev_f (fun q => by rw [e] at q; exact absurd q (by decide)) (tail (gE a F[i]) ?_)
  unfold pkE; rw [if_pos c]
theorem fm_filter {α β : Type} (g : α → List β) (p : α → Bool) : ∀ l : List α, (∀ x ∈ l, p x = false → g x = []) → l.flatMap g = (l.filter p).flatMap g
 | [], _ => rfl
 | x :: l, h => by
  have ih := fm_filter g p l (fun y hy => h y (List.mem_cons_of_mem _ hy))
  rw [List.flatMap_cons]
  cases hp : p x with
  | true => rw [List.filter_cons_of_pos hp, List.flatMap_cons, ih]
  | false => rw [List.filter_cons_of_neg (by rw [hp]; decide), h x (by simp) hp, List.nil_append, ih]
theorem two_faces (base a b : List Ent) (h1 : Stn a) (h2 : Stn b) : (fcs ((base ++ a ++ b).map (·.f0))).flatMap (mgE base a b) = (fcs ((a ++ b).map (·.f0))).flatMap (mgE base a b) := by
 rw [fm_filter (mgE base a b) (fun u => decide (bL u ∈ (fcs ((a ++ b).map (·.f0))).map bL)) (fcs ((base ++ a ++ b).map (·.f0))) ?_]
 ·congr 1
  refine map_bL_inj (fs_uniq _ _ ?_ (fcs_pw _) (fun x => ?_))
  ·exact (fcs_pw ((base ++ a ++ b).map (·.f0))).sublist (List.filter_sublist.map _)
  ·constructor
   ·intro h
    obtain ⟨u, hu, rfl⟩ := List.mem_map.1 h
    simpa using (List.mem_filter.1 hu).2
   ·intro h
    obtain ⟨u, hu, rfl⟩ := List.mem_map.1 h
    refine List.mem_map.2 ⟨u, List.mem_filter.2 ⟨?_, by simpa using h⟩, rfl⟩
    rw [fcs_mem] at hu ⊢
    simp only [List.map_append, List.mem_append] at hu ⊢
    rcases hu with g | g
    ·exact .inl (.inr g)
    ·exact .inr g
 ·intro u _ hp
  have hp : ¬ bL u ∈ (fcs ((a ++ b).map (·.f0))).map bL := by simpa using hp
  rcases pk_cases base a b h1 h2 u with g | ⟨_, _, _, q⟩
  ·unfold mgE; rw [if_pos (by rw [g]; exact zt.1)]
  ·refine absurd ?_ hp
   rw [fcs_memb]
   refine List.mem_map.2 ⟨u, ?_, rfl⟩
   rw [List.map_append, List.mem_append]
   exact q
theorem mergeN_ev (base a b : List Ent) (n0 : Stn base) (n1 : Stn a) (n2 : Stn b) : ∃ r c, r.length ≤ 24 ∧ Ev (fun k => spec_l27Merge.f k base a b) (r, c) ∧ ∀ m, Ev (fun k => impl_ClashesOf.f k base a b) m → m = ((fcs ((base ++ a ++ b).map (·.f0))).filter (clE base a b), 0) → Ev (fun k => impl_MergeStates.f k base a b) (r, c) := by
 have l0 := n0.1.1
 have l1 := n1.1.1
 have l2 := n2.1.1
 have s := sclash_ev base a b n0 n1 n2
 have fl := fcs_len ((base ++ a ++ b).map (·.f0))
 have fl2 := fcs_len ((a ++ b).map (·.f0))
 simp only [List.length_map, List.length_append] at fl fl2
 simp only [spec_l27Merge.f, impl_MergeStates.f]
 generalize hC : (fcs ((base ++ a ++ b).map (·.f0))).filter (clE base a b) = C at s
 by_cases hc : C.length > 0
 rotate_left
 ·have s3 := sfaces_ev base a b l0 l1 l2
  rw [faces_eq] at s3
  have i2 := faces_ev [a, b] (by simp) (by simp; omega)
  have fe : [a, b].flatten = a ++ b := by simp
  rw [fe] at i2
  have p := smerge_ev base a b n0 n1 n2 (fcs ((base ++ a ++ b).map (·.f0))) (by omega) _ 0 [] (Nat.zero_add _) (by simp)
  have q := imerge_ev base a b n0 n1 n2 (fcs ((a ++ b).map (·.f0))) (by omega) _ 0 [] (Nat.zero_add _) (by simp)
  rw [List.drop_zero, List.nil_append] at p q
  rw [two_faces base a b n1 n2] at p
  generalize (fcs ((a ++ b).map (·.f0))).flatMap (mgE base a b) = R at p q
  have fin : ∀ rc : List Ent × Int, rc = (if R.length > 24 then ([], 5) else (R, 0)) → rc.1.length ≤ 24 := by
   intro rc h
   subst h
   split
   ·simp
   ·show R.length ≤ 24; omega
  refine ⟨(if R.length > 24 then ([], 5) else (R, 0) : List Ent × Int).1, (if R.length > 24 then ([], 5) else (R, 0) : List Ent × Int).2, fin _ rfl, Ev_b s (Ev_f (by omega) (Ev_b s3 p)), fun m hm e => ?_⟩
  subst e
  refine Ev_b hm (Ev_t rfl (Ev_suc ?_))
  simp only [impl_MergeStates.j0]
  refine Ev_f (by simp only [decide_eq_true_eq]; omega) (Ev_suc ?_)
  simp only [impl_MergeStates.j1]
  exact Ev_t (by first | exact True.intro | rfl) (Ev_b i2 q)
 refine ⟨[], 6, by simp, Ev_b s (Ev_t (by omega) (Ev_n rfl)), fun m hm e => ?_⟩
 subst e
 refine Ev_b hm (Ev_t rfl (Ev_suc ?_))
 simp only [impl_MergeStates.j0]
 refine Ev_t (decide_eq_true (by omega)) (Ev_suc ?_)
 simp only [impl_MergeStates.j1]
 exact Ev_f (by decide) (Ev_n rfl)
theorem merge_ev (base a b : List Ent) (g0 : (base.length : Int) ≤ 1048576) (g1 : (a.length : Int) ≤ 1048576) (g2 : (b.length : Int) ≤ 1048576) : ∃ r c, r.length ≤ 1048576 ∧ Ev (fun k => spec_MergeStates.f k base a b) (r, c) ∧ Ev (fun k => impl_MergeStates.f k base a b) (r, c) := by
 rcases three_ev base a b g0 g1 g2 with ⟨n0, n1, n2, _, h2, h3⟩ | ⟨_, h2, h3⟩
 ·obtain ⟨r, c, hr, e1, e2⟩ := mergeN_ev base a b n0 n1 n2
  exact ⟨r, c, by omega, h2 _ e1, e2 _ (h3 _ (iclash_ev base a b n0 n1 n2)) rfl⟩
 ·refine ⟨[], 1, by simp, h2, ?_⟩
  simp only [impl_MergeStates.f]
  refine Ev_b h3 (Ev_f (by decide) (Ev_suc ?_))
  simp only [impl_MergeStates.j0]
  refine Ev_f (by decide) (Ev_suc ?_)
  simp only [impl_MergeStates.j1]
  exact Ev_f (by decide) (Ev_n rfl)
end Go.Proofs.Ytiheginanghhjaa.Q
namespace Go.Proofs.Ytiheginanghhjaa.Q
open Go.RowKit Go.Proofs.YtiheginanghhjaaW.PrintWords Go.Proofs.YtiheginanghhjaaW.PrintLast Go.Proofs.YtiheginanghhjaaW.PrintMore
set_option linter.unusedVariables false
theorem law_MergeStates : laws_FnExactMergeStates.Pure := by
 intro x x2 x3 hx hx2 hx3
 have hM : maxLen = 9223372036854775807 := by decide
 refine Ev.rounds (r := true) ?_
 simp only [laws_FnExactMergeStates.f]
 refine Ev_b (szS_Entry x hx.1 hx.2 (1048576) (by omega) (by omega)) ?_
 by_cases cx : ((ZS_Entry x : Nat) : Int) ≤ 1048576
 case neg => rw [cut_neg cx]; exact Ev_t (by decide) (Ev_n rfl)
 rw [cut_pos cx]
 refine Ev_f (by omega) ?_
 refine Ev_b (szS_Entry x2 hx2.1 hx2.2 (1048576 - ((ZS_Entry x : Nat) : Int)) (by omega) (by omega)) ?_
 by_cases cx2 : ((ZS_Entry x2 : Nat) : Int) ≤ 1048576 - ((ZS_Entry x : Nat) : Int)
 case neg => rw [cut_neg cx2]; exact Ev_t (by decide) (Ev_n rfl)
 rw [cut_pos cx2]
 refine Ev_f (by omega) ?_
 refine Ev_b (szS_Entry x3 hx3.1 hx3.2 (1048576 - ((ZS_Entry x : Nat) : Int) - ((ZS_Entry x2 : Nat) : Int)) (by omega) (by omega)) ?_
 by_cases cx3 : ((ZS_Entry x3 : Nat) : Int) ≤ 1048576 - ((ZS_Entry x : Nat) : Int) - ((ZS_Entry x2 : Nat) : Int)
 case neg => rw [cut_neg cx3]; exact Ev_t (by decide) (Ev_n rfl)
 rw [cut_pos cx3]
 refine Ev_f (by omega) ?_
 have nx : (x.length : Int) ≤ 1048576 := by have := (ZS_in_Entry x).1; omega
 have bx : ∀ q_ ∈ x, B_Entry q_ := fun q_ hq_ => B_of_Entry q_ (by have := (ZS_in_Entry x).2 q_ hq_; omega)
 have mx : ((x.map conv_Entry).length : Int) ≤ 1048576 := by simpa using nx
 have Ex : ∀ q_ ∈ x.map conv_Entry, E_Entry q_ := fun y hy => by obtain ⟨u, hu, rfl⟩ := List.mem_map.1 hy; exact E_of_Entry u (bx u hu)
 have tx := toS_Entry x nx bx
 have qx := eqS_Entry (x.map conv_Entry) mx Ex
 have zx : ∀ q_ ∈ x.map conv_Entry, ∃ u ∈ x, conv_Entry u = q_ ∧ ((Z_Entry u : Nat) : Int) ≤ 1048576 := fun y hy => by obtain ⟨u, hu, e⟩ := List.mem_map.1 hy; exact ⟨u, hu, e, by have := (ZS_in_Entry x).2 u hu; omega⟩
 have nx2 : (x2.length : Int) ≤ 1048576 := by have := (ZS_in_Entry x2).1; omega
 have bx2 : ∀ q_ ∈ x2, B_Entry q_ := fun q_ hq_ => B_of_Entry q_ (by have := (ZS_in_Entry x2).2 q_ hq_; omega)
 have mx2 : ((x2.map conv_Entry).length : Int) ≤ 1048576 := by simpa using nx2
 have Ex2 : ∀ q_ ∈ x2.map conv_Entry, E_Entry q_ := fun y hy => by obtain ⟨u, hu, rfl⟩ := List.mem_map.1 hy; exact E_of_Entry u (bx2 u hu)
 have tx2 := toS_Entry x2 nx2 bx2
 have qx2 := eqS_Entry (x2.map conv_Entry) mx2 Ex2
 have zx2 : ∀ q_ ∈ x2.map conv_Entry, ∃ u ∈ x2, conv_Entry u = q_ ∧ ((Z_Entry u : Nat) : Int) ≤ 1048576 := fun y hy => by obtain ⟨u, hu, e⟩ := List.mem_map.1 hy; exact ⟨u, hu, e, by have := (ZS_in_Entry x2).2 u hu; omega⟩
 have nx3 : (x3.length : Int) ≤ 1048576 := by have := (ZS_in_Entry x3).1; omega
 have bx3 : ∀ q_ ∈ x3, B_Entry q_ := fun q_ hq_ => B_of_Entry q_ (by have := (ZS_in_Entry x3).2 q_ hq_; omega)
 have mx3 : ((x3.map conv_Entry).length : Int) ≤ 1048576 := by simpa using nx3
 have Ex3 : ∀ q_ ∈ x3.map conv_Entry, E_Entry q_ := fun y hy => by obtain ⟨u, hu, rfl⟩ := List.mem_map.1 hy; exact E_of_Entry u (bx3 u hu)
 have tx3 := toS_Entry x3 nx3 bx3
 have qx3 := eqS_Entry (x3.map conv_Entry) mx3 Ex3
 have zx3 : ∀ q_ ∈ x3.map conv_Entry, ∃ u ∈ x3, conv_Entry u = q_ ∧ ((Z_Entry u : Nat) : Int) ≤ 1048576 := fun y hy => by obtain ⟨u, hu, e⟩ := List.mem_map.1 hy; exact ⟨u, hu, e, by have := (ZS_in_Entry x3).2 u hu; omega⟩
 obtain ⟨r0, r1, E0, e1, e2⟩ := merge_ev (x.map conv_Entry) (x2.map conv_Entry) (x3.map conv_Entry) mx mx2 mx3
 have qr0 := eqS_Entry r0 (by omega) (by first | exact E_r0 | (intro y _; trivial))
 obtain ⟨px, _, mmx, _⟩ := mk_Entry (x.map conv_Entry) (1) (by omega) (by omega) (by omega)
 obtain ⟨px2, _, mmx2, _⟩ := mk_Entry (x2.map conv_Entry) (1 + 4 * ((x.map conv_Entry).length : Int)) (by omega) (by omega) (by omega)
 obtain ⟨px3, _, mmx3, _⟩ := mk_Entry (x3.map conv_Entry) (1 + 4 * ((x.map conv_Entry).length : Int) + 4 * ((x2.map conv_Entry).length : Int)) (by omega) (by omega) (by omega)
 obtain ⟨pr0, _, mr0, hr0⟩ := mk_Entry r0 1 (by omega) (by omega) (by omega)
 repeat' (first | ((first | (with_reducible refine Ev_b e1 ?_) | (with_reducible refine Ev_b e2 ?_) | (with_reducible refine Ev_b tx ?_) | (with_reducible refine Ev_b qx ?_) | (with_reducible refine Ev_b tx2 ?_) | (with_reducible refine Ev_b qx2 ?_) | (with_reducible refine Ev_b tx3 ?_) | (with_reducible refine Ev_b qx3 ?_) | (with_reducible refine Ev_b qr0 ?_) | (with_reducible refine Ev_b mmx ?_) | (with_reducible refine Ev_b mmx2 ?_) | (with_reducible refine Ev_b mmx3 ?_) | (with_reducible refine Ev_b mr0 ?_) | (with_reducible refine Ev_b hr0 ?_)); try dsimp only) | (with_reducible refine Ev_t rfl ?_) | (with_reducible refine Ev_t True.intro ?_) | (refine Ev_f (by omega) ?_) | (refine Ev_t (by omega) ?_) | (refine Ev_f (by simp) ?_) | exact Ev_n rfl | (refine Ev_suc ?_; first | simp only [laws_FnExactMergeStates.j0] | simp only [laws_FnExactMergeStates.j1] | simp only [laws_FnExactMergeStates.j2]))
end Go.Proofs.Ytiheginanghhjaa.Q
namespace Go.Proofs.Ytiheginanghhjaa.Pure
open Go.Proofs.Ytiheginanghhjaa.Q
theorem FnExactMergeStates : laws_FnExactMergeStates.Pure := law_MergeStates
end Go.Proofs.Ytiheginanghhjaa.Pure
namespace Go.Proofs.Ytiheginanghhjaa.fnExactMergeStates
open Go.ChangeShapes Go.WideShapes Go.ChangeAt Go.RowKit Go.Proofs.Ytiheginanghhjaa.OPN Go.Proofs.Ytiheginanghhjaa.Q Go.Proofs.YtiheginanghhjaaW.PrintWords
open Go.ChangeMaps (open_string shut_string)
set_option linter.unusedVariables false
theorem own : ownKnob Try.prog.godebug = none := by kernel_rfl
theorem laidOut : laidOutB Try.prog = true := by kernel_rfl
set_option maxRecDepth 100000 in
theorem lifted (os : Os) (started : os.Started) (H : Type) (enc : TypeId × Value → H) :
  ReturnsInHanded {} Try.checked os 4 .any (Rows.fnExactMergeStatesSpec.pre6 enc Try.prog Try.f4 Rows.fnExactMergeStatesRow.domain false) (Rows.fnExactMergeStatesSpec.post enc Try.prog Try.f4 false true false false) := by
 refine returnsInHanded_of_change_sized (C := Try.checked) own started (by kernel_rfl) Try.func4
  (ChangeSpec.witness6 (enc := enc) (C := Try.checked) false ⟨#[], #[.slice none 0 0, .slice none 0 0, .slice none 0 0], []⟩ 8 (by kernel_rfl) (by kernel_rfl) (by kernel_rfl) (by kernel_rfl)) ?_
 intro W base args ds gs before hval0 hW hcnd hsz0 _
 have hval : ∀ (j : Nat) t v, Try.f4.params[j]? = some t → args[j]? = some v → Value.okWide Try.prog W .any base t v := hval0
 have hW' := hW
 obtain ⟨p, q, hA0, hV, rfl, hfz, hnd⟩ := hW
 have hA : DataW.TrodAll enc Try.prog W 0 (fun _ => true) true Try.f4.params.toList args.toList ds p := hA0
 rw [Try.params4] at hA hval
 obtain ⟨v0, vs0, d0, ds0, p0, q0, hargs, rfl, rfl, h0, r0⟩ := trodAll_cons hA
 obtain ⟨v1, vs1, d1, ds1, p1, q1, rfl, rfl, rfl, h1, r1⟩ := trodAll_cons r0
 obtain ⟨v2, vs2, d2, ds2, p2, q2, rfl, rfl, rfl, h2, r2⟩ := trodAll_cons r1
 obtain ⟨rfl, rfl, rfl⟩ := trodAll_nil r2
 obtain rfl : args = #[v0, v1, v2] := by cases args; simp_all
 obtain ⟨rfl, rfl⟩ := trodVars_none hV
 have lt0 : ∀ x ∈ p0, x.block < W.heap.size := by obtain ⟨m, hm⟩ := h0; exact DataW.trod_lt m _ _ _ hm
 have k0 := h0
 obtain ⟨z0, y0, u0, rfl⟩ := okWide_slice Try.underlying22 (hval 0 22 v0 rfl rfl)
 obtain ⟨fu0, hf0⟩ := h0
 obtain ⟨x0, ⟨A0, c0, hcs0, hc0, hr0⟩, w0⟩ := ((opn_slice Try.underlying22 (by kernel_rfl) opn59) : Opn _ _ (Kd.slice 59 k59) _).get rfl hf0
 obtain ⟨rfl, rfl, rfl⟩ : A0 = z0 ∧ x0.length = y0 ∧ c0 = u0 := (fun (h_ : z0 = A0 ∧ y0 = x0.length ∧ u0 = c0) => ⟨h_.1.symm, h_.2.1.symm, h_.2.2.symm⟩) (by simpa [Value.cells] using hcs0)
 have lt1 : ∀ x ∈ p1, x.block < W.heap.size := by obtain ⟨m, hm⟩ := h1; exact DataW.trod_lt m _ _ _ hm
 have k1 := h1
 obtain ⟨z1, y1, u1, rfl⟩ := okWide_slice Try.underlying22 (hval 1 22 v1 rfl rfl)
 obtain ⟨fu1, hf1⟩ := h1
 obtain ⟨x1, ⟨A1, c1, hcs1, hc1, hr1⟩, w1⟩ := ((opn_slice Try.underlying22 (by kernel_rfl) opn59) : Opn _ _ (Kd.slice 59 k59) _).get rfl hf1
 obtain ⟨rfl, rfl, rfl⟩ : A1 = z1 ∧ x1.length = y1 ∧ c1 = u1 := (fun (h_ : z1 = A1 ∧ y1 = x1.length ∧ u1 = c1) => ⟨h_.1.symm, h_.2.1.symm, h_.2.2.symm⟩) (by simpa [Value.cells] using hcs1)
 have lt2 : ∀ x ∈ p2, x.block < W.heap.size := by obtain ⟨m, hm⟩ := h2; exact DataW.trod_lt m _ _ _ hm
 have k2 := h2
 obtain ⟨z2, y2, u2, rfl⟩ := okWide_slice Try.underlying22 (hval 2 22 v2 rfl rfl)
 obtain ⟨fu2, hf2⟩ := h2
 obtain ⟨x2, ⟨A2, c2, hcs2, hc2, hr2⟩, w2⟩ := ((opn_slice Try.underlying22 (by kernel_rfl) opn59) : Opn _ _ (Kd.slice 59 k59) _).get rfl hf2
 obtain ⟨rfl, rfl, rfl⟩ : A2 = z2 ∧ x2.length = y2 ∧ c2 = u2 := (fun (h_ : z2 = A2 ∧ y2 = x2.length ∧ u2 = c2) => ⟨h_.1.symm, h_.2.1.symm, h_.2.2.symm⟩) (by simpa [Value.cells] using hcs2)
 clear hA0 hval0 hsz0
 obtain ⟨k, hP⟩ := Pure.FnExactMergeStates x0 x1 x2 w0 w1 w2
 refine (laws_FnExactMergeStates.calls k A0 c0 x0 A1 c1 x1 A2 c2 x2 true W hr0 hc0 hr1 hc1 hr2 hc2 hP).mono fun e W' hh => ?_
 obtain ⟨rfl, bel0⟩ := hh
 have bel : Below W.heap.size W W' := bel0
 exact ⟨_, rfl, _, _, _, [], _, [], hW', trodAll_mk1 (shut_bool Try.underlying4 _), (trodAll_cons_mk (Below.trod laidOut (by kernel_rfl) (of_decide_eq_true (by kernel_rfl)) k0 bel lt0) (trodAll_cons_mk (Below.trod laidOut (by kernel_rfl) (of_decide_eq_true (by kernel_rfl)) k1 bel lt1) (trodAll_cons_mk (Below.trod laidOut (by kernel_rfl) (of_decide_eq_true (by kernel_rfl)) k2 bel lt2) trodAll_mk0))), rfl, bel.frame _, fun h => by cases h⟩
theorem over : Rows.fnExactMergeStatesRow.holds Try.pinned (OpenSpec.ofChange Rows.fnExactMergeStatesSpec) :=
 OpenClaim.holds_of_wide 4 Try.f4 rfl rfl rfl rfl rfl rfl rfl ⟨rfl, rfl, rfl, rfl, rfl⟩ rfl rfl rfl rfl rfl (by kernel_rfl) Try.func4 (by kernel_rfl)
  (of_decide_eq_true (by kernel_rfl)) (by unfold Func.isWrapper; first | (rw [if_pos (by decide +kernel)]; kernel_rfl) | (rw [if_neg (by decide +kernel)]; exact ⟨rfl, rfl⟩))
  (fun os started H enc _ => lifted os started H enc)
theorem proved : Rows.FnExactMergeStatesSaid := over
#print axioms proved
end Go.Proofs.Ytiheginanghhjaa.fnExactMergeStates
namespace Go.Proofs.Ytiheginanghhjaa
theorem fnExactMergeStates_holds : Rows.FnExactMergeStatesSaid := fnExactMergeStates.proved
end Go.Proofs.Ytiheginanghhjaa
