/- a merge of two branches answers as the statement says This text holds the last walks, the plain law and the row. -/
import Derived.SizedLaws
import Derived.ChangeSlices
import Derived.Test.YtiheginanghhjaaRows
import Derived.WalkKit
import Derived.ProofKit
import Derived.OpenShut
import Derived.ShutString
import Derived.ChangeOld
import Derived.Below
import Derived.Test.YtiheginanghhjaaKFnMergesa
import Derived.Test.YtiheginanghhjaaKFnMergesd
import Derived.Test.YtiheginanghhjaaKFnMergese
import Derived.Test.YtiheginanghhjaaKFnMergesb
import Derived.Test.YtiheginanghhjaaKFnMergesf
import Derived.Test.YtiheginanghhjaaKFnMergesc
set_option linter.unusedVariables false
set_option linter.unusedSimpArgs false
namespace Go.Proofs.Ytiheginanghhjaa.Q
open Go.RowKit Go.Proofs.YtiheginanghhjaaW.PrintWords Go.Proofs.YtiheginanghhjaaW.PrintLast Go.Proofs.YtiheginanghhjaaW.PrintMore
theorem u8s_of {l : List Int} (hl : ¬ (l.length : Int) > 1048576) (hw : ∀ x ∈ l, (Lit.int .u8 x).wf = true) : u8s l := by
 refine ⟨by omega, fun x hx => ?_⟩
 have h := hw x hx
 simp only [Lit.wf, Bool.and_eq_true, decide_eq_true_eq] at h
 have e1 : IntKind.u8.min = 0 := by decide
 have e2 : IntKind.u8.max = 255 := by decide
 omega
theorem name_is {x : ByteArray} (h : aL_.f 13 x = some true) : Ev (fun k => aM_.f k x) true := by
 obtain ⟨b, hb⟩ := name_ev x
 have h1 := hb 13 (by omega)
 rw [h] at h1
 obtain rfl : true = b := Option.some.inj h1
 exact ⟨13, fun k hk => (name_same k x).trans (hb k (by omega))⟩
def entV (x : Ent) : Prop := Ev (fun k => ce_.f k [x]) true
theorem entV_of {x : Ent} (hn : Ev (fun k => aM_.f k x.f0) true) (hv : vVen x.f1.f0.toList x.f1.f1 x.f1.f2 = true) : entV x := by
 have v1 : Ev (fun k => bW_.f k [x.f1]) (vVen x.f1.f0.toList x.f1.f1 x.f1.f2) := ⟨12, fun k hk => l07Ok_f x.f1 k hk⟩
 rw [hv] at v1
 have r0 : af_ [x] 0 = x := rfl
 unfold entV
 simp only [ce_.f, r0]
 exact Ev_t (by simp) (Ev_b hn (Ev_t rfl (Ev_b v1 (Ev_n rfl))))
def okS (m : List Ent) : Prop := m.length ≤ 24 ∧ risE m ∧ ∀ y ∈ m, entV y
theorem okS.len {m : List Ent} (h : okS m) : (m.length : Int) ≤ 1048576 := by have := h.1; omega
theorem okS.ev {m : List Ent} (h : okS m) : Ev (fun k => au_.f k m) true := by
 obtain ⟨hl, hp, ho⟩ := h
 have go : ∀ (d i : Nat), i + d = m.length → Ev (fun k => au_.l0 k m i) true := by
  intro d
  induction d with
  | zero => intro i hi; refine bi_ ?_; simp only [au_.l0]; exact Ev_f (by omega) (Ev_n (decide_eq_true (by omega)))
  | succ d ih =>
   intro i hi
   have h1 := ho _ (List.getElem_mem (show i < m.length by omega))
   refine bi_ ?_
   simp only [au_.l0]
   rw [bR_ m i (by omega), wr64s i (by omega)]
   refine Ev_t (by omega) (Ev_t (by omega) (Ev_b h1 (Ev_t rfl ?_)))
   by_cases h0 : i = 0
   rotate_left
   ·have e : wrap64 ((i : Int) - 1) = ((i - 1 : Nat) : Int) := by rw [wr64 (by omega) (by omega)]; omega
    rw [e, bR_ m (i - 1) (by omega)]
    have hc : Go.Lib.compareBytes (fcE (m[i - 1]'(by omega))) (fcE (m[i]'(by omega))) < 0 := (List.pairwise_iff_getElem.1 hp) (i - 1) i (by omega) (by omega) (by omega)
    have hc2 : Op.bytesLess ((m[i - 1]'(by omega)).f0.toList) ((m[i]'(by omega)).f0.toList) = true := (less_iff _ _).2 (by simpa only [fcE, Go.ByteArray.toList_eq] using hc)
    exact Ev_t (by omega) (Ev_t (by omega) (Ev_t (by omega) (Ev_t hc2 (ih (i + 1) (by omega)))))
   exact Ev_f (by omega) (ih (i + 1) (by omega))
 simp only [au_.f]
 exact go m.length 0 (by omega)
theorem okS.stn {m : List Ent} (h : okS m) : Stn m ∧ Ev (fun k => am_.f k m) true := by
 obtain ⟨b, e1, e2, hb⟩ := stateN_ev m h.len
 obtain rfl : b = true := Ev_one e1 h.ev
 exact ⟨hb rfl, e2⟩
theorem okS_nil : okS [] := ⟨by simp, List.Pairwise.nil, by simp⟩
theorem putE_sub (l : List Ent) (b : Ent) : ∀ y ∈ putE l b, y = b ∨ y ∈ l := by
 intro y hy
 unfold putE putG at hy
 split at hy <;> (rcases List.mem_append.1 hy with g | g; · exact Or.inr (List.mem_of_mem_take g)) <;> (rcases List.mem_cons.1 g with g | g; · exact Or.inl g) <;> exact Or.inr (List.mem_of_mem_drop g)
theorem okS.put {m : List Ent} (h : okS m) {b : Ent} (hb : entV b) (hl : (putE m b).length ≤ 24) : okS (putE m b) := by
 refine ⟨hl, putG_pw cb_ord h.2.1 b, fun y hy => ?_⟩
 rcases putE_sub m b y hy with rfl | g
 ·exact hb
 ·exact h.2.2 y g
theorem okS.cut {m : List Ent} (h : okS m) (i : Nat) : okS (m.take i ++ m.drop (i + 1)) := by
 have sub : (m.take i ++ m.drop (i + 1)).Sublist m := by
  rw [← List.eraseIdx_eq_take_drop_succ]
  exact List.eraseIdx_sublist m i
 exact ⟨Nat.le_trans sub.length_le h.1, h.2.1.sublist sub, fun y hy => h.2.2 y (sub.subset hy)⟩
abbrev NS : List ByteArray := [(⟨#[97]⟩ : ByteArray), (⟨#[98]⟩ : ByteArray), (⟨#[99]⟩ : ByteArray), (⟨#[100]⟩ : ByteArray), (⟨#[101]⟩ : ByteArray), (⟨#[102]⟩ : ByteArray)]
theorem names6 (x : ByteArray) (hx : x ∈ NS) : Ev (fun k => aM_.f k x) true := by
 simp only [List.mem_cons, List.not_mem_nil, or_false] at hx
 rcases hx with rfl | rfl | rfl | rfl | rfl | rfl <;> exact name_is (by decide +kernel)
abbrev NB : List ByteArray := [(⟨#[97]⟩ : ByteArray), (⟨#[98]⟩ : ByteArray), (⟨#[99]⟩ : ByteArray), (⟨#[100]⟩ : ByteArray), (⟨#[101]⟩ : ByteArray)]
def nmG (i : Nat) : ByteArray := NB.getD i ByteArray.empty
theorem nmG_is : ∀ i, i < 5 → aL_.f 13 (nmG i) = some true := by
 intro i hi
 have h : i = 0 ∨ i = 1 ∨ i = 2 ∨ i = 3 ∨ i = 4 := by omega
 rcases h with rfl | rfl | rfl | rfl | rfl <;> decide +kernel
theorem nmG_lt : ∀ j i, j < i → i < 5 → Go.Lib.compareBytes (nmG j).data.toList (nmG i).data.toList < 0 := by
 intro j i hj hi
 have h : i = 0 ∨ i = 1 ∨ i = 2 ∨ i = 3 ∨ i = 4 := by omega
 have h2 : j = 0 ∨ j = 1 ∨ j = 2 ∨ j = 3 := by omega
 rcases h with rfl | rfl | rfl | rfl | rfl <;> rcases h2 with rfl | rfl | rfl | rfl <;> first | omega | decide +kernel
theorem state_loop (c : List Int) (hc : u8s c) : ∀ (d i : Nat) (a s : Int) (m : List Ent), i + d = 5 → m.length ≤ i → risE m → (∀ y ∈ m, entV y) → (∀ y ∈ m, ∃ j, j < i ∧ y.f0 = nmG j) → 0 ≤ a → a + 20 * d < 4611686018427300000 →
  ∃ m' a' s', Ev (fun k => ay_.l0 k NB m i c a s) (m', a', s') ∧ a ≤ a' ∧ a' ≤ a + 20 * d ∧ m'.length ≤ 5 ∧ okS m'
 | 0, i, a, s, m, h, hl, hr, he, hn, h0, h1 => ⟨m, a, s, by refine bi_ ?_; simp only [ay_.l0]; exact Ev_f (by omega) (Ev_n rfl), by omega, by omega, by omega, by omega, hr, he⟩
 | d + 1, i, a, s, m, h, hl, hr, he, hn, h0, h1 => by
  obtain ⟨b, a1, s1, e1, p1, q1⟩ := one_ok c hc a s 2 h0 (by omega) (by omega)
  cases b with
  | false =>
   obtain ⟨m', a', s', h2, h3, h4, h5, h6⟩ := state_loop c hc d (i + 1) a1 s1 m (by omega) (by omega) hr he (fun y hy => by obtain ⟨j, q1, q2⟩ := hn y hy; exact ⟨j, by omega, q2⟩) (by omega) (by omega)
   refine ⟨m', a', s', bi_ ?_, by omega, by omega, h5, h6⟩
   simp only [ay_.l0]
   rw [wr64s i (by omega)]
   exact Ev_t (by omega) (Ev_b (Ev_c e1) (Ev_f (by simp) h2))
  | true =>
   obtain ⟨n, sh, g, a2, s2, e2, p2, q2, z2, hv⟩ := l07Draw_ok c hc a1 s1 (by omega) (by omega)
   have er : rdOf ByteArray.empty NB (i : Int) = nmG i := rfl
   have hx : entV (⟨nmG i, ⟨n, sh, g⟩⟩ : Ent) := entV_of (name_is (nmG_is i (by omega))) hv
   obtain ⟨m', a', s', h2, h3, h4, h5, h6⟩ := state_loop c hc d (i + 1) a2 s2 (m ++ [(⟨nmG i, ⟨n, sh, g⟩⟩ : Ent)]) (by omega) (by simp; omega)
    (List.pairwise_append.2 ⟨hr, by simp, fun y hy z hz => by
     obtain rfl := List.mem_singleton.1 hz
     obtain ⟨j, hj, ej⟩ := hn y hy
     show Go.Lib.compareBytes y.f0.data.toList _ < 0
     rw [ej]
     exact nmG_lt j i hj (by omega)⟩)
    (fun y hy => by
     rcases List.mem_append.1 hy with q | q
     ·exact he y q
     ·rw [List.mem_singleton.1 q]; exact hx)
    (fun y hy => by
     rcases List.mem_append.1 hy with q | q
     ·obtain ⟨j, q1, q2⟩ := hn y q; exact ⟨j, by omega, q2⟩
     ·rw [List.mem_singleton.1 q]; exact ⟨i, by omega, rfl⟩) (by omega) (by omega)
   refine ⟨m', a', s', bi_ ?_, by omega, by omega, h5, h6⟩
   simp only [ay_.l0]
   rw [wr64s i (by omega), er]
   exact Ev_t (by omega) (Ev_b (Ev_c e1) (Ev_t rfl (Ev_t (by omega) (Ev_t (by simp; omega) (Ev_b (Ev_c e2) (Ev_t (by omega) h2))))))
theorem state_at (c : List Int) (hc : u8s c) (a s : Int) (h0 : 0 ≤ a) (h1 : a < 4611686018427200000) : ∃ m a' s', Ev (fun k => ay_.f k c a s) (m, a', s') ∧ a ≤ a' ∧ a' ≤ a + 100 ∧ m.length ≤ 5 ∧ okS m := by
 obtain ⟨m, a', s', h2, h3, h4, h5, h6⟩ := state_loop c hc 5 0 a s [] (by omega) (by simp) List.Pairwise.nil (by simp) (by simp) h0 (by omega)
 exact ⟨m, a', s', by simp only [ay_.f]; exact h2, h3, by omega, h5, h6⟩
theorem at_ev (l : List Ent) (hl : (l.length : Int) ≤ 1048576) (u : ByteArray) : ∃ t : Int, Ev (fun k => ci_.f k l u) t ∧ (t < 0 ∨ ∃ i : Nat, t = (i : Int) ∧ i < l.length) := by
 have go : ∀ (d i : Nat), i + d = l.length → ∃ t : Int, Ev (fun k => ci_.l0 k l u i) t ∧ (t < 0 ∨ ∃ i : Nat, t = (i : Int) ∧ i < l.length) := by
  intro d
  induction d with
  | zero => intro i hi; exact ⟨-1, by refine bi_ ?_; simp only [ci_.l0]; exact Ev_f (by omega) (Ev_n rfl), Or.inl (by omega)⟩
  | succ d ih =>
   intro i hi
   obtain ⟨t, h1, h2⟩ := ih (i + 1) (by omega)
   by_cases e : (l[i]'(by omega)).f0.toList = u.toList
   rotate_left
   ·refine ⟨t, bi_ ?_, h2⟩
    simp only [ci_.l0]
    rw [bR_ l i (by omega), wr64s i (by omega)]
    exact Ev_t (by omega) (Ev_t (by omega) (Ev_f e h1))
   refine ⟨(i : Int), bi_ ?_, Or.inr ⟨i, rfl, by omega⟩⟩
   simp only [ci_.l0]
   rw [bR_ l i (by omega)]
   exact Ev_t (by omega) (Ev_t (by omega) (Ev_t e (Ev_n rfl)))
 obtain ⟨t, h1, h2⟩ := go l.length 0 (by omega)
 exact ⟨t, by simp only [ci_.f]; exact h1, h2⟩
theorem changed_loop (c : List Int) (hc : u8s c) : ∀ (n : Nat) (a s : Int) (m : List Ent), n ≤ 10 → m.length + n ≤ 24 → okS m → 0 ≤ a → a + 20 * n < 4611686018427200000 →
  ∃ m' a' s', Ev (fun k => aw_.l0 k m NS n c a s) (m', a', s') ∧ a ≤ a' ∧ a' ≤ a + 20 * n ∧ m'.length ≤ m.length + n ∧ okS m'
 | 0, a, s, m, hn, hl, hm, h0, h1 => ⟨m, a, s, by refine bi_ ?_; simp only [aw_.l0]; exact Ev_f (by simp) (Ev_n rfl), by omega, by omega, by omega, hm⟩
 | n + 1, a, s, m, hn, hl, hm, h0, h1 => by
  have hNl : NS.length = 6 := rfl
  obtain ⟨v, a1, s1, e1, p1, q1, v0, v1⟩ := pick_ok c hc a s 6 h0 (by omega) (by omega)
  have hv := v1 (by omega)
  have er : rdOf ByteArray.empty NS v = NS[v.toNat]'(by omega) := by unfold rdOf; rw [List.getD_eq_getElem?_getD, List.getElem?_eq_getElem (by omega)]; rfl
  have hmem := List.getElem_mem (show v.toNat < NS.length by omega)
  have hnm : Ev (fun k => aM_.f k (rdOf ByteArray.empty NS v)) true := by rw [er]; exact names6 _ hmem
  obtain ⟨t, et, ht⟩ := at_ev m hm.len (rdOf ByteArray.empty NS v)
  have ew : wrap64 (((n + 1 : Nat) : Int) - 1) = (n : Int) := by rw [wr64 (by omega) (by omega)]; omega
  have set_ : ∀ (a2 s2 : Int), a1 ≤ a2 → a2 ≤ a1 + 2 → ∃ m' a' s', Ev (fun k => aw_.j1 k m NS ((n + 1 : Nat) : Int) (rdOf ByteArray.empty NS v) t false c a2 s2) (m', a', s') ∧ a ≤ a' ∧ a' ≤ a + 20 * ((n + 1 : Nat) : Int) ∧ m'.length ≤ m.length + (n + 1) ∧ okS m' := by
   intro a2 s2 g1 g2
   obtain ⟨nm, sh, g, a3, s3, e3, p3, q3, _, hvv⟩ := l07Draw_ok c hc a2 s2 (by omega) (by omega)
   have pl := (putG_len (c := Go.Lib.compareBytes) (key := fcE) m (⟨(rdOf ByteArray.empty NS v), ⟨nm, sh, g⟩⟩ : Ent)).1
   have ok2 : okS (putE m (⟨(rdOf ByteArray.empty NS v), ⟨nm, sh, g⟩⟩ : Ent)) := hm.put (entV_of hnm hvv) (by unfold putE; omega)
   obtain ⟨m', a', s', h2, h3, h4, h5, h6⟩ := changed_loop c hc n a3 s3 (putE m (⟨(rdOf ByteArray.empty NS v), ⟨nm, sh, g⟩⟩ : Ent)) (by omega) (by unfold putE; omega) ok2 (by omega) (by omega)
   refine ⟨m', a', s', bi_ ?_, by omega, by omega, by unfold putE at h5; omega, h6⟩
   simp only [aw_.j1, ew]
   exact Ev_f (by decide) (Ev_b (Ev_c e3) (Ev_b (setE_ev m hm.len (⟨(rdOf ByteArray.empty NS v), ⟨nm, sh, g⟩⟩ : Ent) (rsgG cb_ord hm.2.1 _)) h2))
  by_cases c0 : t ≥ 0
  rotate_left
  ·obtain ⟨m', a', s', h2, h3, h4, h5, h6⟩ := set_ a1 s1 (by omega) (by omega)
   refine ⟨m', a', s', bi_ ?_, h3, h4, h5, h6⟩
   simp only [aw_.l0]
   exact Ev_t (by omega) (Ev_b (Ev_c e1) (Ev_t v0 (Ev_t (by dsimp only; omega) (Ev_b et (Ev_f c0 h2)))))
  obtain ⟨i, rfl, hi⟩ : ∃ i : Nat, t = (i : Int) ∧ i < m.length := by
   rcases ht with g | g
   ·omega
   ·exact g
  obtain ⟨b, a2, s2, e2, p2, q2⟩ := one_ok c hc a1 s1 2 (by omega) (by omega) (by omega)
  cases b with
  | false =>
   obtain ⟨m', a', s', h2, h3, h4, h5, h6⟩ := set_ a2 s2 p2 q2
   refine ⟨m', a', s', bi_ ?_, h3, h4, h5, h6⟩
   simp only [aw_.l0]
   exact Ev_t (by omega) (Ev_b (Ev_c e1) (Ev_t v0 (Ev_t (by dsimp only; omega) (Ev_b et (Ev_t c0 (Ev_b (Ev_c e2) h2))))))
  | true =>
   have hml := hm.1
   obtain ⟨m', a', s', h2, h3, h4, h5, h6⟩ := changed_loop c hc n a2 s2 (m.take i ++ m.drop (i + 1)) (by omega) (by simp; omega) (hm.cut i) (by omega) (by omega)
   refine ⟨m', a', s', bi_ ?_, by omega, by omega, by simp at h5; omega, h6⟩
   simp only [aw_.l0]
   refine Ev_t (by omega) (Ev_b (Ev_c e1) (Ev_t v0 (Ev_t (by dsimp only; omega) (Ev_b et (Ev_t c0 (Ev_b (Ev_c e2) (bi_ ?_)))))))
   simp only [aw_.j1, ew]
   rw [wr64s i (by omega)]
   refine Ev_t (by trivial) (Ev_s (Ev_t (by omega) (Ev_t (by omega) (Ev_s (Ev_t (by simp; omega) (Ev_s (Ev_t (by omega) (Ev_t (by omega) (Ev_s (Ev_t (by simp; omega) ?_))))))))))
   rw [List.nil_append]
   exact h2
theorem changed_at (c : List Int) (hc : u8s c) (a s : Int) (m : List Ent) (hm : okS m) (hl : m.length ≤ 20) (h0 : 0 ≤ a) (h1 : a < 4611686018427100000) : ∃ m' a' s', Ev (fun k => aw_.f k c a s m) (m', a', s') ∧ a ≤ a' ∧ a' ≤ a + 70 ∧ m'.length ≤ m.length + 3 ∧ okS m' := by
 obtain ⟨v, a1, s1, e1, p1, q1, v0, v1⟩ := pick_ok c hc a s 4 h0 (by omega) (by omega)
 have hv := v1 (by omega)
 obtain ⟨m', a', s', h2, h3, h4, h5, h6⟩ := changed_loop c hc v.toNat a1 s1 m (by omega) (by omega) hm (by omega) (by omega)
 rw [show ((v.toNat : Nat) : Int) = v by omega] at h2
 refine ⟨m', a', s', ?_, by omega, by omega, by omega, h6⟩
 simp only [aw_.f]
 refine Ev_s (Ev_t (by simp; omega) (Ev_b (Ev_c e1) ?_))
 rw [List.nil_append]
 exact h2
theorem state_draw (c : List Int) (hc : u8s c) : ∃ m, Ev (fun k => cN_.f k c) m ∧ okS m ∧ m.length ≤ 5 := by
 obtain ⟨m, a', s', h2, _, _, h5, h6⟩ := state_at c hc 0 0 (by omega) (by omega)
 refine ⟨m, ?_, h6, h5⟩
 simp only [cN_.f]
 exact Ev_b (a := (c, 0, 0)) (Ev_c rfl) (Ev_b h2 (Ev_n rfl))
theorem changed_draw (c : List Int) (hc : u8s c) (m : List Ent) (hm : okS m) (hl : m.length ≤ 20) : ∃ m', Ev (fun k => bZ_.f k c m) m' ∧ okS m' := by
 obtain ⟨m', a', s', h2, _, _, h5, h6⟩ := changed_at c hc 0 0 m hm hl (by omega) (by omega)
 refine ⟨m', ?_, h6⟩
 simp only [bZ_.f]
 exact Ev_b (a := (c, 0, 0)) (Ev_c rfl) (Ev_b h2 (Ev_n rfl))
theorem note_is (x : ByteArray) (hs : x.size ≤ 20) (hb : ∀ i : Nat, i < x.size → 32 ≤ bt x i ∧ bt x i ≤ 126) : Ev (fun k => bp_.f k x) true := by
 have go : ∀ (d i : Nat), i + d = x.size → Ev (fun k => bp_.l0 k x i) true := by
  intro d
  induction d with
  | zero => intro i hi; refine bi_ ?_; simp only [bp_.l0]; exact Ev_f (by omega) (Ev_n (decide_eq_true (by omega)))
  | succ d ih =>
   intro i hi
   have := hb i (by omega)
   refine bi_ ?_
   simp only [bp_.l0]
   rw [wr64s i (by omega)]
   exact Ev_t (by omega) (Ev_t (by omega) (Ev_f (by omega) (Ev_f (by omega) (ih (i + 1) (by omega)))))
 simp only [bp_.f]
 exact go x.size 0 (by omega)
def okP (m : List Ver) : Prop := m.length ≤ 16 ∧ ∀ (i : Nat) (hi : i < m.length), m[i].f0 = (i : Int) + 1 ∧ 0 ≤ m[i].f1 ∧ m[i].f1 ≤ i ∧ (m[i].f2.size ≤ 20 ∧ Ev (fun k => bp_.f k m[i].f2) true) ∧ okS m[i].f3
theorem okP.len {m : List Ver} (h : okP m) : (m.length : Int) ≤ 1048576 := by have := h.1; omega
theorem okP.w {m : List Ver} (h : okP m) : ∀ y ∈ m, (y.f2.size : Int) ≤ 1048576 ∧ (y.f3.length : Int) ≤ 1048576 := by
 intro y hy
 obtain ⟨i, hi, rfl⟩ := List.mem_iff_getElem.1 hy
 obtain ⟨_, _, _, ⟨h1, _⟩, h2⟩ := h.2 i hi
 exact ⟨by omega, h2.len⟩
theorem okP.ev {m : List Ver} (h : okP m) : Ev (fun k => bG_.f k m) true := by
 obtain ⟨hl, ho⟩ := h
 have go : ∀ (d i : Nat), i + d = m.length → Ev (fun k => bG_.l0 k m i) true := by
  intro d
  induction d with
  | zero => intro i hi; refine bi_ ?_; simp only [bG_.l0]; exact Ev_f (by omega) (Ev_n (decide_eq_true (by omega)))
  | succ d ih =>
   intro i hi
   obtain ⟨h1, h2, h3, ⟨_, h4⟩, h5⟩ := ho i (by omega)
   refine bi_ ?_
   simp only [bG_.l0]
   rw [cC_ m i (by omega), wr64s i (by omega)]
   have hin : bX_.f (m[i]'(by omega)).f1 0 (i : Int) = some true := by rw [in_f]; simp; omega
   exact Ev_t (by omega) (Ev_t (by omega) (Ev_t (by rw [h1]; omega) (Ev_b (Ev_c hin) (Ev_t rfl (Ev_b h4 (Ev_t rfl (Ev_b h5.ev (Ev_t rfl (ih (i + 1) (by omega))))))))))
 simp only [bG_.f]
 exact go m.length 0 (by omega)
theorem okP.prj {m : List Ver} (h : okP m) : Prj m ∧ Ev (fun k => aW_.f k m) true ∧ ∀ y ∈ m, Vst y.f3 := by
 obtain ⟨b, e1, e2, hb⟩ := projectN_ev m h.len h.w
 obtain rfl : b = true := Ev_one e1 h.ev
 exact ⟨(hb rfl).1, e2, (hb rfl).2⟩
theorem okP.snoc {m : List Ver} (h : okP m) (hl : m.length < 16) {v : Ver} (h0 : v.f0 = (m.length : Int) + 1) (h1 : 0 ≤ v.f1) (h2 : v.f1 ≤ m.length) (h3 : v.f2.size ≤ 20) (h4 : Ev (fun k => bp_.f k v.f2) true) (h5 : okS v.f3) : okP (m ++ [v]) := by
 refine ⟨by simp; omega, fun i hi => ?_⟩
 by_cases c : i < m.length
 rotate_left
 ·have : i = m.length := by simp at hi; omega
  subst this
  rw [List.getElem_append_right (by omega)]
  simp only [Nat.sub_self, List.getElem_cons_zero]
  exact ⟨h0, h1, h2, ⟨h3, h4⟩, h5⟩
 rw [List.getElem_append_left c]; exact h.2 i c
theorem notes3 (x : ByteArray) (hx : x ∈ [(⟨#[]⟩ : ByteArray), (⟨#[110, 101, 119]⟩ : ByteArray), (⟨#[97, 32, 98]⟩ : ByteArray)]) : x.size ≤ 20 ∧ Ev (fun k => bp_.f k x) true := by
 simp only [List.mem_cons, List.not_mem_nil, or_false] at hx
 rcases hx with rfl | rfl | rfl <;> exact ⟨by decide, note_is _ (by decide) (by decide +kernel)⟩
theorem project_loop (c : List Int) (hc : u8s c) : ∀ (n : Nat) (a s : Int) (m : List Ver), m.length + n ≤ 5 → okP m → (∀ y ∈ m, y.f3.length ≤ 5 + 3 * m.length) → 0 ≤ a → a + 400 * n < 4611686018427000000 →
  ∃ m' a' s', Ev (fun k => bC_.l0 k m n c a s) (m', a', s') ∧ okP m' ∧ m'.length ≤ 5
 | 0, a, s, m, hl, hm, hs, h0, h1 => ⟨m, a, s, by refine bi_ ?_; simp only [bC_.l0]; exact Ev_f (by simp) (Ev_n rfl), hm, by omega⟩
 | n + 1, a, s, m, hl, hm, hs, h0, h1 => by
  obtain ⟨v, a1, s1, e1, p1, q1, v0, v1⟩ := pick_ok c hc a s ((m.length : Int) + 1) h0 (by omega) (by omega)
  have hv := v1 (by omega)
  obtain ⟨st, a2, s2, e2, p2, q2, l2, o2⟩ := state_at c hc a1 s1 (by omega) (by omega)
  have ew : wrap64 (((n + 1 : Nat) : Int) - 1) = (n : Int) := by rw [wr64 (by omega) (by omega)]; omega
  have el : wrap64 ((m.length : Int) + 1) = (m.length : Int) + 1 := wr64 (by omega) (by omega)
  have fin : ∀ (X : List Ent) (a3 s3 : Int), okS X → X.length ≤ 8 + 3 * m.length → a ≤ a3 → a3 ≤ a + 200 → ∃ nt a4 s4, bO_.f c a3 s3 [(⟨#[]⟩ : ByteArray), (⟨#[110, 101, 119]⟩ : ByteArray), (⟨#[97, 32, 98]⟩ : ByteArray)] = some (nt, a4, s4) ∧ ∃ m' a' s', Ev (fun k => bC_.l0 k (m ++ [(⟨(m.length : Int) + 1, v, nt, X⟩ : Ver)]) n c a4 s4) (m', a', s') ∧ okP m' ∧ m'.length ≤ 5 := by
   intro X a3 s3 oX lX g1 g2
   obtain ⟨nt, a4, s4, e4, p4, q4, hnt⟩ := text_ok c hc a3 s3 [(⟨#[]⟩ : ByteArray), (⟨#[110, 101, 119]⟩ : ByteArray), (⟨#[97, 32, 98]⟩ : ByteArray)] (by omega) (by omega) (by simp) (by simp)
   obtain ⟨z1, z2⟩ := notes3 nt hnt
   refine ⟨nt, a4, s4, e4, project_loop c hc n a4 s4 _ (by simp; omega) (hm.snoc (by omega) rfl v0 (by dsimp only; omega) z1 z2 oX) (fun y hy => ?_) (by omega) (by omega)⟩
   rw [List.length_append]
   rcases List.mem_append.1 hy with q | q
   ·have := hs y q; simp; omega
   ·rw [List.mem_singleton.1 q]; simp; omega
  by_cases c0 : v > 0
  rotate_left
  ·obtain ⟨nt, a4, s4, e4, m', a', s', h2, h3, h4⟩ := fin st a2 s2 o2 (by omega) (by omega) (by omega)
   refine ⟨m', a', s', bi_ ?_, h3, h4⟩
   simp only [bC_.l0, ew, el]
   exact Ev_t (by omega) (Ev_b (Ev_c e1) (Ev_b e2 (Ev_f c0 (Ev_b (Ev_c e4) (Ev_t (by omega) h2)))))
  have ev1 : wrap64 (v - 1) = ((v.toNat - 1 : Nat) : Int) := by rw [wr64 (by omega) (by omega)]; omega
  have hi : v.toNat - 1 < m.length := by omega
  have sl := hs _ (List.getElem_mem hi)
  obtain ⟨X, a3, s3, e3, p3, q3, l3, o3⟩ := changed_at c hc a2 s2 (m[v.toNat - 1]).f3 (hm.2 _ hi).2.2.2.2 (by omega) (by omega) (by omega)
  obtain ⟨nt, a4, s4, e4, m', a', s', h2, h3, h4⟩ := fin X a3 s3 o3 (by omega) (by omega) (by omega)
  refine ⟨m', a', s', bi_ ?_, h3, h4⟩
  simp only [bC_.l0, ew, el]
  refine Ev_t (by omega) (Ev_b (Ev_c e1) (Ev_b e2 (Ev_t c0 ?_)))
  dsimp only
  rw [ev1, cC_ m _ hi]
  exact Ev_t (by omega) (Ev_t (by omega) (Ev_b e3 (Ev_b (Ev_c e4) (Ev_t (by omega) h2))))
theorem project_draw (c : List Int) (hc : u8s c) : ∃ m, Ev (fun k => cK_.f k c) m ∧ okP m ∧ m.length ≤ 5 := by
 obtain ⟨v, a1, s1, e1, p1, q1, v0, v1⟩ := pick_ok c hc 0 0 6 (by omega) (by omega) (by omega)
 have hv := v1 (by omega)
 obtain ⟨m', a', s', h2, h3, h4⟩ := project_loop c hc v.toNat a1 s1 [] (by simp; omega) ⟨by simp, by simp⟩ (by simp) (by omega) (by omega)
 rw [show ((v.toNat : Nat) : Int) = v by omega] at h2
 refine ⟨m', ?_, h3, h4⟩
 simp only [cK_.f]
 refine Ev_b (a := (c, 0, 0)) (Ev_c rfl) (Ev_b (a := (m', a', s')) ?_ (Ev_n rfl))
 simp only [bC_.f]
 exact Ev_b (Ev_c e1) h2
theorem dE_eq {x y : Ent} (h : dE x y = false) : x = y := by
 obtain ⟨a, b, c, d⟩ := x
 obtain ⟨a', b', c', d'⟩ := y
 unfold dE at h
 simp only [Bool.or_eq_false_iff, Bool.not_eq_false', beq_iff_eq, Go.ByteArray.toList_eq] at h
 obtain ⟨h1, h2, h3, h4⟩ := h
 have e1 : a = a' := bL_inj h1
 have e2 : b = b' := bL_inj h2
 subst e1 e2 h3 h4
 rfl
theorem dE_self (x : Ent) : dE x x = false := by unfold dE; simp
theorem pk_1 (base a : List Ent) (u : ByteArray) : pkE base a base u = gE a u := by
 unfold pkE
 cases h : dE (gE a u) (gE base u) with
 | true => rw [if_pos rfl]
 | false => rw [if_neg (by decide)]; exact (dE_eq h).symm
theorem pk_2 (base a : List Ent) (u : ByteArray) : pkE base base a u = gE a u := by unfold pkE; rw [dE_self, if_neg (by decide)]
theorem pk_3 (base a : List Ent) (u : ByteArray) : pkE base a a u = gE a u := by unfold pkE; split <;> rfl
theorem gE_in (m : List Ent) (u : ByteArray) : gE m u = zE ∨ gE m u ∈ m := by
 cases h : fnd (fun x => Go.Lib.compareBytes (fcE x) u.data.toList) m with
 | true => obtain ⟨hp, e, _⟩ := gE_at m u h; rw [e]; exact Or.inr (List.getElem_mem hp)
 | false => left; unfold gE; rw [if_neg (by rw [h]; decide)]
theorem fc_irr (x : Ent) : ¬ Go.Lib.compareBytes (fcE x) (fcE x) < 0 := by have := (cb_ord.zero (fcE x) (fcE x)).2 rfl; omega
theorem fc_asym {x y : Ent} (h : Go.Lib.compareBytes (fcE x) (fcE y) < 0) : ¬ Go.Lib.compareBytes (fcE y) (fcE x) < 0 := fun h2 => by
 have := cb_ord.trans _ _ _ h h2
 have h3 := (cb_ord.zero (fcE x) (fcE x)).2 rfl
 omega
theorem ris_uniq {m : List Ent} (hp : risE m) {y z : Ent} (hy : y ∈ m) (hz : z ∈ m) (h : fcE y = fcE z) : y = z := by
 obtain ⟨i, hi, rfl⟩ := List.mem_iff_getElem.1 hy
 obtain ⟨j, hj, rfl⟩ := List.mem_iff_getElem.1 hz
 rcases Nat.lt_trichotomy i j with g | g | g
 ·have := (List.pairwise_iff_getElem.1 hp) i j hi hj g; rw [h] at this; exact absurd this (fc_irr _)
 ·subst g; rfl
 ·have := (List.pairwise_iff_getElem.1 hp) j i hj hi g; rw [h] at this; exact absurd this (fc_irr _)
theorem ris_ext : ∀ (l m : List Ent), risE l → risE m → (∀ x, x ∈ l ↔ x ∈ m) → l = m
 | [], [], _, _, _ => rfl
 | [], y :: m, _, _, h => by have := (h y).2 List.mem_cons_self; cases this
 | x :: l, [], _, _, h => by have := (h x).1 List.mem_cons_self; cases this
 | x :: l, y :: m, h1, h2, h => by
  obtain ⟨a1, a2⟩ := List.pairwise_cons.1 h1
  obtain ⟨b1, b2⟩ := List.pairwise_cons.1 h2
  have e : x = y := by
   rcases List.mem_cons.1 ((h x).1 List.mem_cons_self) with e | e
   ·exact e
   ·rcases List.mem_cons.1 ((h y).2 List.mem_cons_self) with e' | e'
    ·exact e'.symm
    ·exact absurd (a1 y e') (fc_asym (b1 x e))
  subst e
  congr 1
  refine ris_ext l m a2 b2 (fun z => ⟨fun hz => ?_, fun hz => ?_⟩)
  ·rcases List.mem_cons.1 ((h z).1 (List.mem_cons_of_mem _ hz)) with e | e
   ·subst e; exact absurd (a1 z hz) (fc_irr z)
   ·exact e
  ·rcases List.mem_cons.1 ((h z).2 (List.mem_cons_of_mem _ hz)) with e | e
   ·subst e; exact absurd (b1 z hz) (fc_irr z)
   ·exact e
theorem fcs_ris (L : List ByteArray) : (fcs L).Pairwise (fun u v => Go.Lib.compareBytes u.data.toList v.data.toList < 0) := by
 have h := fcs_pw L
 rw [List.pairwise_map] at h
 exact h.imp (fun h => (fs_lt _ _).1 h)
theorem fcs_same {L M : List ByteArray} (h : ∀ u, u ∈ L ↔ u ∈ M) : fcs L = fcs M := by
 refine map_bL_inj (fs_uniq _ _ (fcs_pw L) (fcs_pw M) (fun x => ?_))
 rw [fcs_memb, fcs_memb]
 simp only [List.mem_map]
 exact ⟨fun ⟨u, h1, h2⟩ => ⟨u, (h u).1 h1, h2⟩, fun ⟨u, h1, h2⟩ => ⟨u, (h u).2 h1, h2⟩⟩
theorem fm_ris (g : ByteArray → List Ent) (F : List ByteArray) (hF : F.Pairwise (fun u v => Go.Lib.compareBytes u.data.toList v.data.toList < 0)) (h1 : ∀ u, (g u).length ≤ 1) (h2 : ∀ u, ∀ x ∈ g u, x.f0 = u) : risE (F.flatMap g) := by
 unfold risE
 rw [List.pairwise_flatMap]
 refine ⟨fun u _ => ?_, hF.imp (fun h x hx y hy => ?_)⟩
 ·have := h1 u
  match hg : g u with
  | [] => exact List.Pairwise.nil
  | [x] => simp
  | x :: y :: r => rw [hg] at this; simp at this
 ·show Go.Lib.compareBytes (fcE x) (fcE y) < 0
  unfold fcE
  rw [h2 _ x hx, h2 _ y hy]
  exact h
theorem mg_nm (base a b : List Ent) (h1 : Stn a) (h2 : Stn b) (u : ByteArray) : ∀ x ∈ mgE base a b u, x.f0 = u ∧ (x ∈ a ∨ x ∈ b) := by
 intro x hx
 unfold mgE at hx
 split at hx
 ·cases hx
 ·rename_i hne
  obtain rfl := List.mem_singleton.1 hx
  rcases pk_cases base a b h1 h2 u with g | ⟨g, _⟩
  ·rw [g] at hne; exact absurd zt.1 hne
  ·refine ⟨g, ?_⟩
   unfold pkE at hne ⊢
   split
   ·rename_i c
    rw [if_pos c] at hne
    rcases gE_in a u with q | q
    ·rw [q] at hne; exact absurd zt.1 hne
    ·exact Or.inl q
   ·rename_i c
    rw [if_neg c] at hne
    rcases gE_in b u with q | q
    ·rw [q] at hne; exact absurd zt.1 hne
    ·exact Or.inr q
def mgL (base a b : List Ent) : List Ent := (fcs ((a ++ b).map (·.f0))).flatMap (mgE base a b)
def clL (base a b : List Ent) : List ByteArray := (fcs ((base ++ a ++ b).map (·.f0))).filter (clE base a b)
theorem mgL_ris (base a b : List Ent) (h1 : Stn a) (h2 : Stn b) : risE (mgL base a b) := fm_ris _ _ (fcs_ris _) (mg_len base a b) (fun u x hx => (mg_nm base a b h1 h2 u x hx).1)
theorem mgL_mem (base a b : List Ent) (h1 : Stn a) (h2 : Stn b) : ∀ x ∈ mgL base a b, x ∈ a ∨ x ∈ b := by
 intro x hx
 obtain ⟨u, _, hu⟩ := List.mem_flatMap.1 hx
 exact (mg_nm base a b h1 h2 u x hu).2
theorem mgL_self (base x y a : List Ent) (hx : Stn x) (hy : Stn y) (ha : okS a) (hp : ∀ u, pkE base x y u = gE a u) (hs : ∀ u, u ∈ a.map (·.f0) → u ∈ (x ++ y).map (·.f0)) : mgL base x y = a := by
 have sa := ha.stn.1
 refine ris_ext _ _ (mgL_ris base x y hx hy) ha.2.1 (fun z => ⟨fun hz => ?_, fun hz => ?_⟩)
 ·obtain ⟨u, _, hu⟩ := List.mem_flatMap.1 hz
  unfold mgE at hu
  rw [hp] at hu
  split at hu
  ·cases hu
  ·rename_i hne
   obtain rfl := List.mem_singleton.1 hu
   rcases gE_in a u with q | q
   ·rw [q] at hne; exact absurd zt.1 hne
   ·exact q
 ·have hzm : z.f0 ∈ a.map (·.f0) := List.mem_map.2 ⟨z, hz, rfl⟩
  refine List.mem_flatMap.2 ⟨z.f0, (fcs_mem _ _).2 (hs _ hzm), ?_⟩
  have hg : gE a z.f0 = z := by
   rcases gE_cases a sa z.f0 with ⟨_, q⟩ | ⟨q, _, q3, _⟩
   ·exact absurd hzm q
   ·rcases gE_in a z.f0 with w | w
    ·rw [w] at q
     have := zt.1
     rw [q] at this
     exact absurd this q3
    ·exact ris_uniq ha.2.1 w hz (by unfold fcE; rw [q])
  unfold mgE
  rw [hp, hg, if_neg (sa.2 z hz)]
  exact List.mem_singleton.2 rfl
def mgR (base a b : List Ent) : List Ent × Int := if (clL base a b).length > 0 then ([], 6) else if (mgL base a b).length > 24 then ([], 5) else (mgL base a b, 0)
theorem clash_x (base a b : List Ent) (h0 : okS base) (h1 : okS a) (h2 : okS b) : Ev (fun k => av_.f k base a b) (clL base a b, 0) := by
 obtain ⟨n0, i0⟩ := h0.stn
 obtain ⟨n1, i1⟩ := h1.stn
 obtain ⟨n2, i2⟩ := h2.stn
 simp only [av_.f]
 exact Ev_b i0 (Ev_t rfl (Ev_b i1 (Ev_t rfl (Ev_b i2 (iclash_ev base a b n0 n1 n2)))))
theorem merge_x (base a b : List Ent) (h0 : okS base) (h1 : okS a) (h2 : okS b) : Ev (fun k => al_.f k base a b) (mgR base a b) := by
 obtain ⟨n0, i0⟩ := h0.stn
 obtain ⟨n1, i1⟩ := h1.stn
 obtain ⟨n2, i2⟩ := h2.stn
 have l1 := n1.1.1
 have l2 := n2.1.1
 have fl2 := fcs_len ((a ++ b).map (·.f0))
 simp only [List.length_map, List.length_append] at fl2
 have hm := clash_x base a b h0 h1 h2
 simp only [al_.f]
 unfold mgR
 by_cases hc : (clL base a b).length > 0
 rotate_left
 ·rw [if_neg hc]
  have i2 := faces_ev [a, b] (by simp) (by simp; omega)
  have fe : [a, b].flatten = a ++ b := by simp
  rw [fe] at i2
  have q := imerge_ev base a b n0 n1 n2 (fcs ((a ++ b).map (·.f0))) (by omega) _ 0 [] (Nat.zero_add _) (by simp)
  rw [List.drop_zero, List.nil_append] at q
  refine Ev_b hm (Ev_t rfl (bi_ ?_))
  simp only [al_.j0]
  refine Ev_f (by simp only [decide_eq_true_eq]; omega) (bi_ ?_)
  simp only [al_.j1]
  exact Ev_t (by first | exact True.intro | rfl) (Ev_b i2 q)
 rw [if_pos hc]
 refine Ev_b hm (Ev_t rfl (bi_ ?_))
 simp only [al_.j0]
 refine Ev_t (decide_eq_true (by omega)) (bi_ ?_)
 simp only [al_.j1]
 exact Ev_f (by decide) (Ev_n rfl)
theorem clE_comm (base a b : List Ent) (u : ByteArray) : clE base a b u = clE base b a u := by
 unfold clE
 rw [dE_comm (gE a u) (gE b u)]
 cases dE (gE base u) (gE a u) <;> cases dE (gE base u) (gE b u) <;> rfl
theorem clL_comm (base a b : List Ent) : clL base a b = clL base b a := by
 unfold clL
 rw [fcs_same (L := (base ++ a ++ b).map (·.f0)) (M := (base ++ b ++ a).map (·.f0)) (fun u => by simp only [List.map_append, List.mem_append]; constructor <;> (rintro ((h | h) | h) <;> simp [h]))]
 exact congrArg (fun p => List.filter p _) (funext (fun u => clE_comm base a b u))
theorem cl_no {base a b : List Ent} (h : ¬ (clL base a b).length > 0) (u : ByteArray) (hu : u ∈ (a ++ b).map (·.f0)) : clE base a b u = false := by
 cases hc : clE base a b u with
 | false => rfl
 | true =>
  have hu2 : u ∈ (base ++ a ++ b).map (·.f0) := by
   simp only [List.map_append, List.mem_append] at hu ⊢
   rcases hu with g | g <;> simp [g]
  have : u ∈ clL base a b := List.mem_filter.2 ⟨(fcs_mem _ _).2 hu2, hc⟩
  exact absurd (List.length_pos_of_mem this) h
theorem mgL_comm {base a b : List Ent} (h : ¬ (clL base a b).length > 0) : mgL base a b = mgL base b a := by
 unfold mgL
 rw [fcs_same (L := (b ++ a).map (·.f0)) (M := (a ++ b).map (·.f0)) (fun u => by simp only [List.map_append, List.mem_append]; exact or_comm)]
 have ext : ∀ l : List ByteArray, (∀ u ∈ l, u ∈ (a ++ b).map (·.f0)) → l.flatMap (mgE base a b) = l.flatMap (mgE base b a) := by
  intro l
  induction l with
  | nil => intro _; rfl
  | cons u l ih =>
   intro hl
   rw [List.flatMap_cons, List.flatMap_cons, ih (fun v hv => hl v (List.mem_cons_of_mem _ hv))]
   have e : pkE base a b u = pkE base b a u := by
    have hc := cl_no h u (hl u (List.mem_cons_self ..))
    unfold clE at hc
    unfold pkE
    rw [dE_comm (gE a u) (gE base u), dE_comm (gE b u) (gE base u)]
    cases h1 : dE (gE base u) (gE a u) with
    | true =>
     cases h2 : dE (gE base u) (gE b u) with
     | true =>
      rw [h1, h2] at hc
      rw [if_pos rfl, if_pos rfl]
      exact dE_eq (by simpa using hc)
     | false => rw [if_pos rfl, if_neg (by decide)]
    | false =>
     cases h2 : dE (gE base u) (gE b u) with
     | true => rw [if_neg (by decide), if_pos rfl]
     | false => rw [if_neg (by decide), if_neg (by decide), ← dE_eq h1, ← dE_eq h2]
   unfold mgE
   rw [e]
 exact ext _ (fun u hu => (fcs_mem _ _).1 hu)
theorem mgR_comm (base a b : List Ent) : mgR base a b = mgR base b a := by
 unfold mgR
 by_cases h : (clL base a b).length > 0
 rotate_left
 ·have h' : ¬ (clL base b a).length > 0 := by rw [← clL_comm base a b]; exact h
  rw [if_neg h, if_neg h', mgL_comm h]
 have h' : (clL base b a).length > 0 := by rw [← clL_comm base a b]; exact h
 rw [if_pos h, if_pos h']
theorem mgR_none (base x y a : List Ent) (hx : okS x) (hy : okS y) (ha : okS a) (hc : ∀ u, clE base x y u = false) (hp : ∀ u, pkE base x y u = gE a u) (hs : ∀ u, u ∈ a.map (·.f0) → u ∈ (x ++ y).map (·.f0)) : mgR base x y = (a, 0) := by
 have e := mgL_self base x y a hx.stn.1 hy.stn.1 ha hp hs
 have c0 : clL base x y = [] := List.filter_eq_nil_iff.2 (fun u _ => by rw [hc]; decide)
 unfold mgR
 rw [c0, e, if_neg (by simp), if_neg (by have := ha.1; omega)]
theorem sameS_self (m : List Ent) (hl : (m.length : Int) ≤ 1048576) : Ev (fun k => bk_.f k m m) true := by
 have go : ∀ (d i : Nat), i + d = m.length → Ev (fun k => bU_.l0 k m m i) true := by
  intro d
  induction d with
  | zero => intro i hi; refine bi_ ?_; simp only [bU_.l0]; exact Ev_f (by omega) (Ev_n rfl)
  | succ d ih =>
   intro i hi
   refine bi_ ?_
   simp only [bU_.l0]
   rw [wr64s i (by omega)]
   exact Ev_t (by omega) (Ev_t (by omega) (Ev_t (by omega) (Ev_f (by simp) (ih (i + 1) (by omega)))))
 simp only [bk_.f]
 refine Ev_b (a := true) ?_ (Ev_n rfl)
 simp only [bU_.f]
 exact Ev_t (by trivial) (go m.length 0 (by omega))
theorem okS_mgL {base a b : List Ent} (h1 : okS a) (h2 : okS b) (hl : ¬ (mgL base a b).length > 24) : okS (mgL base a b) := by
 refine ⟨by omega, mgL_ris base a b h1.stn.1 h2.stn.1, fun x hx => ?_⟩
 rcases mgL_mem base a b h1.stn.1 h2.stn.1 x hx with g | g
 ·exact h1.2.2 x g
 ·exact h2.2.2 x g
def par (m : List Ver) (a : Nat) : Nat := match m[a - 1]? with
 | some v => v.f1.toNat
 | none => 0
def chn (m : List Ver) : Nat → Nat → List Int
 | 0, _ => []
 | n + 1, a => if a = 0 then [] else (a : Int) :: chn m n (par m a)
theorem par_at {m : List Ver} (h : okP m) (a : Nat) (h1 : 1 ≤ a) (h2 : a ≤ m.length) : par m a < a ∧ (m[a - 1]'(by omega)).f1 = (par m a : Int) := by
 obtain ⟨_, g1, g2, _⟩ := h.2 (a - 1) (by omega)
 have e : par m a = (m[a - 1]'(by omega)).f1.toNat := by unfold par; rw [List.getElem?_eq_getElem (show a - 1 < m.length by omega)]
 exact ⟨by rw [e]; omega, by rw [e]; omega⟩
theorem chn_fuel {m : List Ver} (h : okP m) : ∀ (n a : Nat), a ≤ n → a ≤ m.length → chn m n a = chn m a a
 | 0, a, h1, h2 => by
  obtain rfl : a = 0 := by omega
  rfl
 | n + 1, a, h1, h2 => by
  by_cases h0 : a = 0
  rotate_left
  ·obtain ⟨b, rfl⟩ : ∃ b, a = b + 1 := ⟨a - 1, by omega⟩
   obtain ⟨p, _⟩ := par_at h (b + 1) (by omega) h2
   simp only [chn, if_neg h0]
   rw [chn_fuel h n (par m (b + 1)) (by omega) (by omega), chn_fuel h b (par m (b + 1)) (by omega) (by omega)]
  subst h0; simp [chn]
theorem chn_step {m : List Ver} (h : okP m) (a : Nat) (h1 : 1 ≤ a) (h2 : a ≤ m.length) : chn m a a = (a : Int) :: chn m (par m a) (par m a) := by
 obtain ⟨b, rfl⟩ : ∃ b, a = b + 1 := ⟨a - 1, by omega⟩
 obtain ⟨p, _⟩ := par_at h (b + 1) h1 h2
 have e := chn_fuel h b (par m (b + 1)) (by omega) (by omega)
 simp only [chn, if_neg (show ¬ b + 1 = 0 by omega), e]
theorem chn_in {m : List Ver} (h : okP m) : ∀ (n a : Nat), a ≤ n → a ≤ m.length → (chn m a a).length ≤ a ∧ (∀ x ∈ chn m a a, 1 ≤ x ∧ x ≤ (a : Int)) ∧ (chn m a a).Pairwise (fun x y => y < x)
 | 0, a, h1, h2 => by
  obtain rfl : a = 0 := by omega
  simp [chn]
 | n + 1, a, h1, h2 => by
  by_cases h0 : a = 0
  rotate_left
  ·obtain ⟨p, _⟩ := par_at h a (by omega) h2
   obtain ⟨i1, i2, i3⟩ := chn_in h n (par m a) (by omega) (by omega)
   rw [chn_step h a (by omega) h2]
   refine ⟨by simp; omega, fun x hx => ?_, List.pairwise_cons.2 ⟨fun x hx => ?_, i3⟩⟩
   ·rcases List.mem_cons.1 hx with rfl | g
    ·omega
    ·have := i2 x g; omega
   ·have := i2 x hx; omega
  subst h0; simp [chn]
theorem above_x {m : List Ver} (h : okP m) : ∀ (n a : Nat), a ≤ n → 1 ≤ a → a ≤ m.length → ∀ out : List Int, out.length + a ≤ 2000 → Ev (fun k => aV_.l0 k m (a : Int) out) (out ++ chn m (par m a) (par m a))
 | 0, a, h1, h2, h3, out, ho => by omega
 | n + 1, a, h1, h2, h3, out, ho => by
  obtain ⟨p, q⟩ := par_at h a h2 h3
  have hl := h.1
  have ew : wrap64 ((a : Int) - 1) = ((a - 1 : Nat) : Int) := by rw [wr64 (by omega) (by omega)]; omega
  refine bi_ ?_
  simp only [aV_.l0]
  rw [ew, cC_ m (a - 1) (by omega), q]
  refine Ev_f (by omega) (Ev_t (by omega) (Ev_t (by omega) ?_))
  by_cases h0 : par m a = 0
  rotate_left
  ·refine Ev_f (by omega) (Ev_t (by omega) ?_)
   have ih := above_x h n (par m a) (by omega) (by omega) (by omega) (out ++ [(par m a : Int)]) (by simp; omega)
   rw [List.append_assoc, List.singleton_append, ← chn_step h (par m a) (by omega) (by omega)] at ih
   exact ih
  rw [h0]
  refine Ev_t (by omega) (bi_ ?_)
  simp only [aV_.l0]
  exact Ev_t (by omega) (Ev_n (by simp [chn]))
def com (A B : List Int) : Int := match A.find? (fun x => decide (x ∈ B)) with
 | some x => x
 | none => 0
theorem common_loop (A B : List Int) (hA : (A.length : Int) ≤ 1048576) (hB : (B.length : Int) ≤ 1048576) : ∀ (d i : Nat), i + d = A.length → Ev (fun k => bj_.l0 k A B i) (com (A.drop i) B) := by
 intro d
 induction d with
 | zero =>
  intro i hi
  refine bi_ ?_
  simp only [bj_.l0]
  rw [List.drop_of_length_le (by omega)]
  exact Ev_f (by omega) (Ev_n (by simp [com]))
 | succ d ih =>
  intro i hi
  refine bi_ ?_
  simp only [bj_.l0]
  rw [rd_nat A i (by omega), wr64s i (by omega), List.drop_eq_getElem_cons (show i < A.length by omega)]
  refine Ev_t (by omega) (Ev_t (by omega) (Ev_b (has_ev B hB _) ?_))
  by_cases c : A[i]'(by omega) ∈ B
  rotate_left
  ·refine Ev_f (by rw [decide_eq_false c]; decide) (Ev_at (ih (i + 1) (by omega)) ?_)
   unfold com
   rw [List.find?_cons_of_neg (by simpa using c)]
  exact Ev_t (decide_eq_true c) (Ev_n (by unfold com; rw [List.find?_cons_of_pos (by simpa using c)]))
theorem common_x {m : List Ver} (h : okP m) (a b : Nat) (a1 : 1 ≤ a) (a2 : a ≤ m.length) (b1 : 1 ≤ b) (b2 : b ≤ m.length) : Ev (fun k => bf_.f k m (a : Int) (b : Int)) (com (chn m a a) (chn m b b), 0) ∧ Ev (fun k => aF_.f k m (a : Int) (b : Int)) (com (chn m a a) (chn m b b)) ∧ Ev (fun k => aG_.f k m [(a : Int), (b : Int)]) 0 := by
 obtain ⟨hp, vp, _⟩ := h.prj
 have hl := h.1
 obtain ⟨pa, qa⟩ := par_at h a a1 a2
 obtain ⟨pb, qb⟩ := par_at h b b1 b2
 have la := (chn_in h _ _ (Nat.le_refl _) a2).1
 have lb := (chn_in h _ _ (Nat.le_refl _) b2).1
 have s : Ev (fun k => bj_.f k m (a : Int) (b : Int)) (com (chn m a a) (chn m b b)) := by
  simp only [bj_.f]
  have ea := above_x h a a (Nat.le_refl _) a1 a2 [] (by simp; omega)
  have eb := above_x h b b (Nat.le_refl _) b1 b2 [] (by simp; omega)
  rw [List.nil_append] at ea eb
  have sa := chn_step h a a1 a2
  have sb := chn_step h b b1 b2
  have fa : Ev (fun k => aV_.f k m (a : Int)) (chn m (par m a) (par m a)) := by simp only [aV_.f]; exact ea
  have fb : Ev (fun k => aV_.f k m (b : Int)) (chn m (par m b) (par m b)) := by simp only [aV_.f]; exact eb
  have g := common_loop (chn m a a) (chn m b b) (by omega) (by omega) (chn m a a).length 0 (by omega)
  rw [List.drop_zero, sa, sb] at g
  have la2 : (chn m (par m a) (par m a)).length < a := by rw [sa] at la; simp at la; omega
  have lb2 : (chn m (par m b) (par m b)).length < b := by rw [sb] at lb; simp at lb; omega
  rw [sa, sb]
  exact Ev_s (Ev_b fa (Ev_t (by simp; omega) (Ev_s (Ev_b fb (Ev_t (by simp; omega) g)))))
 rcases two_ev m hp vp (a : Int) (b : Int) with ⟨_, _, pc, r, _, c1, c2⟩ | ⟨_, g | ⟨_, g⟩⟩
 ·obtain rfl := Ev_one c1 s
  refine ⟨?_, c2, pc⟩
  simp only [bf_.f]
  exact Ev_b pc (Ev_t rfl (Ev_b c2 (Ev_n rfl)))
 ·simp at g; omega
 ·simp at g; omega
theorem com_is (A B : List Int) (hA : A.Pairwise (fun x y => y < x)) : (com A B = 0 ∧ ∀ x ∈ A, x ∉ B) ∨ (com A B ∈ A ∧ com A B ∈ B ∧ ∀ x ∈ A, x ∈ B → x ≤ com A B) := by
 induction A with
 | nil => left; simp [com]
 | cons y A ih =>
  obtain ⟨h1, h2⟩ := List.pairwise_cons.1 hA
  by_cases c : y ∈ B
  rotate_left
  ·have e : com (y :: A) B = com A B := by unfold com; rw [List.find?_cons_of_neg (by simpa using c)]
   rw [e]
   rcases ih h2 with ⟨g1, g2⟩ | ⟨g1, g2, g3⟩
   ·refine Or.inl ⟨g1, fun x hx => ?_⟩
    rcases List.mem_cons.1 hx with rfl | g
    ·exact c
    ·exact g2 x g
   ·refine Or.inr ⟨List.mem_cons_of_mem _ g1, g2, fun x hx hb => ?_⟩
    rcases List.mem_cons.1 hx with rfl | g
    ·exact absurd hb c
    ·exact g3 x g hb
  right
  have e : com (y :: A) B = y := by unfold com; rw [List.find?_cons_of_pos (by simpa using c)]
  rw [e]
  refine ⟨List.mem_cons_self .., c, fun x hx _ => ?_⟩
  rcases List.mem_cons.1 hx with rfl | g
  ·omega
  ·have := h1 x g; omega
theorem com_comm (A B : List Int) (hA : A.Pairwise (fun x y => y < x)) (hB : B.Pairwise (fun x y => y < x)) : com A B = com B A := by
 rcases com_is A B hA with ⟨a1, a2⟩ | ⟨a1, a2, a3⟩ <;> rcases com_is B A hB with ⟨b1, b2⟩ | ⟨b1, b2, b3⟩
 ·rw [a1, b1]
 ·exact absurd b1 (a2 _ b2)
 ·exact absurd a1 (b2 _ a2)
 ·have h1 := a3 _ b2 b1
  have h2 := b3 _ a2 a1
  omega
theorem r8At_ok (c : List Int) (hc : u8s c) (i n : Int) (hi : 0 ≤ i) (hn : 1 ≤ n) (hn2 : n ≤ 1000) : ∃ t, cq_.f c i n = some t ∧ 0 ≤ t ∧ t < n := by
 unfold cq_.f
 by_cases c1 : n ≤ 1
 rotate_left
 ·rw [if_neg c1]
  by_cases c2 : i ≥ (c.length : Int)
  rotate_left
  ·rw [if_neg c2, if_pos hi, if_pos (by omega), if_neg (by omega)]
   have hv : 0 ≤ rd c i ∧ rd c i < 256 := by
    unfold rd
    have h : i.toNat < c.length := by omega
    rw [List.getD_eq_getElem?_getD, List.getElem?_eq_getElem h]
    exact hc.2 _ (List.getElem_mem h)
   rw [wr64 (by omega) (by omega)]
   exact ⟨_, rfl, Int.tmod_nonneg _ (by omega), Int.tmod_lt_of_pos _ (by omega)⟩
  rw [if_pos c2]; exact ⟨0, rfl, by omega, by omega⟩
 rw [if_pos c1]; exact ⟨0, rfl, by omega, by omega⟩
theorem stateOf_x {m : List Ver} (h : okP m) (n : Int) (h0 : 0 ≤ n) (h1 : n ≤ (m.length : Int)) : ∃ s : List Ent, okS s ∧ cy_.f m n = some s := by
 have h16 := h.1
 by_cases c : n = 0
 rotate_left
 ·obtain ⟨u, hu⟩ := Int.eq_ofNat_of_zero_le h0
  subst hu
  have hv1 : u - 1 < m.length := by omega
  have ew : wrap64 ((u : Int) - 1) = ((u - 1 : Nat) : Int) := by rw [wr64 (by omega) (by omega)]; omega
  refine ⟨(m[u - 1]'hv1).f3, (h.2 _ hv1).2.2.2.2, ?_⟩
  unfold cy_.f
  rw [if_neg c, ew, if_pos (by omega), if_pos (by omega), cC_ m (u - 1) hv1]
 subst c
 exact ⟨[], okS_nil, by simp [cy_.f]⟩
theorem add_x {m : List Ver} (h : okP m) (hl : m.length < 16) (a : Int) (nt : ByteArray) (st : List Ent) (hst : okS st) : Ev (fun k => bq_.f k m a nt st) (m ++ [⟨(m.length : Int) + 1, a, nt, st⟩], 0) := by
 have hw : wrap64 ((m.length : Int) + 1) = (m.length : Int) + 1 := wr64 (by omega) (by omega)
 have hs := fun y hy => (h.w y hy).2
 have hsl := hst.len
 obtain ⟨r0, r1, _, e1, e2⟩ := add_ev m a nt st h.1 hs hst.len
 have s : Ev (fun k => df_.f k m a nt st) (m ++ [⟨(m.length : Int) + 1, a, nt, st⟩], 0) := by
  simp only [df_.f, hw]
  exact Ev_f (by omega) (Ev_b (Ev_n rfl) (Ev_t (by simp only [List.length_nil]; omega) (Ev_b (own_ev m h.1 hs) (Ev_b (Ev_n rfl) (Ev_t (by simp only [List.length_cons, List.length_nil]; omega) (Ev_n (by simp)))))))
 rw [Ev_one e1 s] at e2
 exact e2
abbrev ntBoth : ByteArray := ⟨#[98, 111, 116, 104]⟩
theorem both_is : ntBoth.size ≤ 20 ∧ Ev (fun k => bp_.f k ntBoth) true := ⟨by decide, note_is _ (by decide) (by decide +kernel)⟩
theorem mergev_x {m : List Ver} (h : okP m) (hl : m.length < 16) (p q : Nat) (p1 : 1 ≤ p) (p2 : p ≤ m.length) (q1 : 1 ≤ q) (q2 : q ≤ m.length) : ∃ (r0 : List Ver) (r1 : Int), Ev (fun k => aI_.f k m (p : Int) (q : Int) ntBoth) (r0, r1) ∧ (r1 = 0 → r0.length = m.length + 1 ∧ okP r0) := by
 obtain ⟨_, cc, pc⟩ := common_x h p q p1 p2 q1 q2
 obtain ⟨b, n1, n2⟩ := note_ev ntBoth (by decide)
 obtain rfl : b = true := Ev_one n1 both_is.2
 have hr : 0 ≤ com (chn m p p) (chn m q q) ∧ com (chn m p p) (chn m q q) ≤ (m.length : Int) := by
  have cp := chn_in h p p (Nat.le_refl _) p2
  rcases com_is (chn m p p) (chn m q q) cp.2.2 with ⟨g, _⟩ | ⟨g, _⟩
  ·omega
  ·have := cp.2.1 _ g; omega
 obtain ⟨s0, o0, e0⟩ := stateOf_x h _ hr.1 hr.2
 obtain ⟨s1, o1, e1⟩ := stateOf_x h (p : Int) (by omega) (by omega)
 obtain ⟨s2, o2, e2⟩ := stateOf_x h (q : Int) (by omega) (by omega)
 have pm := merge_x s0 s1 s2 o0 o1 o2
 by_cases hc : (mgR s0 s1 s2).2 = 0
 rotate_left
 ·refine ⟨[], (mgR s0 s1 s2).2, ?_, fun g => absurd g hc⟩
  simp only [aI_.f]
  refine Ev_b pc (Ev_b n2 (Ev_t rfl (bi_ ?_)))
  simp only [aI_.j0]
  exact Ev_t (by first | exact True.intro | rfl) (Ev_b cc (Ev_b (Ev_c e0) (Ev_b (Ev_c e1) (Ev_b (Ev_c e2) (Ev_b pm (Ev_f hc (Ev_n rfl)))))))
 have he : mgR s0 s1 s2 = (mgL s0 s1 s2, 0) ∧ ¬ (mgL s0 s1 s2).length > 24 := by
  unfold mgR at hc ⊢
  split at hc
  ·cases hc
  ·rename_i c1
   rw [if_neg c1]
   split at hc
   ·cases hc
   ·rename_i c2; rw [if_neg c2]; exact ⟨rfl, c2⟩
 have os := okS_mgL (base := s0) o1 o2 he.2
 rw [he.1] at pm
 refine ⟨m ++ [⟨(m.length : Int) + 1, (p : Int), ntBoth, mgL s0 s1 s2⟩], 0, ?_, fun _ => ⟨by simp, h.snoc hl rfl (by dsimp only; omega) (by dsimp only; omega) both_is.1 both_is.2 os⟩⟩
 simp only [aI_.f]
 refine Ev_b pc (Ev_b n2 (Ev_t rfl (bi_ ?_)))
 simp only [aI_.j0]
 exact Ev_t (by first | exact True.intro | rfl) (Ev_b cc (Ev_b (Ev_c e0) (Ev_b (Ev_c e1) (Ev_b (Ev_c e2) (Ev_b pm (Ev_t rfl (Ev_b (add_x h hl (p : Int) ntBoth _ os) (Ev_n rfl))))))))
theorem law_Merges : ap_.Pure := by
 intro l0 l1 _ _ hw0 _ _ hw1
 suffices hs : Ev (fun k => ap_.f k l0 l1) true from hs.rounds
 simp only [ap_.f]
 by_cases c0 : (l0.length : Int) > 1048576
 ·exact Ev_b (a := true) (Ev_c (by unfold cX_.f; rw [if_pos c0])) (Ev_t rfl (Ev_n rfl))
 by_cases c1 : (l1.length : Int) > 1048576
 ·exact Ev_b (a := true) (Ev_c (by unfold cX_.f; rw [if_neg c0, decide_eq_true c1])) (Ev_t rfl (Ev_n rfl))
 refine Ev_b (a := false) (Ev_c (by unfold cX_.f; rw [if_neg c0, decide_eq_false c1])) (Ev_f (by decide) ?_)
 have u0 := u8s_of c0 hw0
 have u1 := u8s_of c1 hw1
 obtain ⟨base, eb, ob, lb⟩ := state_draw l0 u0
 obtain ⟨a, ea, oa⟩ := changed_draw l1 u1 base ob (by omega)
 obtain ⟨b, ec, oc⟩ := changed_draw l0 u0 base ob (by omega)
 have m1 := merge_x base a base ob oa ob
 have m2 := merge_x base base a ob ob oa
 have m3 := merge_x base a a ob oa oa
 rw [mgR_none base a base a oa ob oa (fun u => by unfold clE; rw [dE_self]; simp) (pk_1 base a) (fun u hu => by rw [List.map_append]; exact List.mem_append_left _ hu)] at m1
 rw [mgR_none base base a a ob oa oa (fun u => by unfold clE; rw [dE_self]; simp) (pk_2 base a) (fun u hu => by rw [List.map_append]; exact List.mem_append_right _ hu)] at m2
 rw [mgR_none base a a a oa oa oa (fun u => by unfold clE; rw [dE_self]; simp) (pk_3 base a) (fun u hu => by rw [List.map_append]; exact List.mem_append_left _ hu)] at m3
 have sm := sameS_self a oa.len
 refine Ev_b eb (Ev_b ea (Ev_b ec (Ev_b m1 (Ev_b m2 (Ev_b m3 (Ev_t rfl (Ev_t rfl (Ev_t rfl (Ev_b sm (Ev_t rfl (Ev_b sm (Ev_t rfl (Ev_b sm ?_)))))))))))))
 have x1 := clash_x base a b ob oa oc
 have x2 := clash_x base b a ob oc oa
 have y1 := merge_x base a b ob oa oc
 have y2 := merge_x base b a ob oc oa
 rw [← clL_comm base a b] at x2
 rw [← mgR_comm base a b] at y2
 have one : Ev (fun k => ap_.j1 k l1 false) true := by
  refine bi_ ?_
  simp only [ap_.j1]
  obtain ⟨m, em, om, lm⟩ := project_draw l1 u1
  refine Ev_f (by decide) (Ev_b em ?_)
  by_cases h0 : (m.length : Int) = 0
  ·exact Ev_t h0 (Ev_n rfl)
  refine Ev_f h0 ?_
  obtain ⟨t, et, t0, t1⟩ := r8At_ok l1 u1 0 (m.length : Int) (by omega) (by omega) (by omega)
  obtain ⟨s, es, s0, s1⟩ := r8At_ok l1 u1 1 (m.length : Int) (by omega) (by omega) (by omega)
  refine Ev_b (Ev_c et) (Ev_b (Ev_c es) ?_)
  obtain ⟨p, hp⟩ : ∃ p : Nat, 1 + t = (p : Int) := ⟨(1 + t).toNat, by omega⟩
  obtain ⟨q, hq⟩ : ∃ q : Nat, 1 + s = (q : Int) := ⟨(1 + s).toNat, by omega⟩
  rw [wr64 (x := 1 + t) (by omega) (by omega), wr64 (x := 1 + s) (by omega) (by omega), hp, hq]
  obtain ⟨a1, _, _⟩ := common_x om p q (by omega) (by omega) (by omega) (by omega)
  obtain ⟨a2, _, _⟩ := common_x om q p (by omega) (by omega) (by omega) (by omega)
  obtain ⟨r0, r1, a3, hr⟩ := mergev_x om (by omega) p q (by omega) (by omega) (by omega) (by omega)
  have ip := chn_in om p p (Nat.le_refl _) (by omega)
  have iq := chn_in om q q (Nat.le_refl _) (by omega)
  rw [← com_comm (chn m p p) (chn m q q) ip.2.2 iq.2.2] at a2
  have hc : 0 ≤ com (chn m p p) (chn m q q) ∧ com (chn m p p) (chn m q q) ≤ (p : Int) ∧ com (chn m p p) (chn m q q) ≤ (q : Int) := by
   rcases com_is (chn m p p) (chn m q q) ip.2.2 with ⟨g, _⟩ | ⟨g1, g2, _⟩
   ·omega
   ·have h1 := ip.2.1 _ g1; have h2 := iq.2.1 _ g2; omega
  refine Ev_b a1 (Ev_b a2 (Ev_b a3 (Ev_t rfl (Ev_t rfl (Ev_t rfl (Ev_f (by dsimp only; omega) (Ev_f (by dsimp only; unfold mn; split <;> omega) ?_)))))))
  by_cases hz : r1 = 0
  rotate_left
  ·exact Ev_f hz (Ev_n rfl)
  obtain ⟨g1, g2⟩ := hr hz
  refine Ev_t hz (Ev_t (by dsimp only; rw [wr64 (by omega) (by omega)]; omega) (Ev_b (a := true) ?_ (Ev_n rfl)))
  simp only [cr_.f]
  exact Ev_b g2.ev (Ev_n rfl)
 refine bi_ ?_
 simp only [ap_.j0]
 refine Ev_f (by decide) (Ev_b x1 (Ev_b x2 (Ev_b y1 (Ev_b y2 (Ev_t rfl (Ev_t rfl (Ev_t rfl (Ev_t rfl ?_))))))))
 by_cases hcl : (clL base a b).length > 0
 rotate_left
 ·have dn : decide (((clL base a b).length : Int) > 0) = false := decide_eq_false (by omega)
  by_cases hl : (mgL base a b).length > 24
  rotate_left
  ·have e : mgR base a b = (mgL base a b, 0) := by unfold mgR; rw [if_neg hcl, if_neg hl]
   rw [e]
   have os := okS_mgL (base := base) oa oc hl
   refine Ev_f (by dsimp only; rw [dn]; decide) (Ev_t rfl (Ev_b (sameS_self _ os.len) (Ev_t rfl (Ev_b (a := true) ?_ one))))
   simp only [cF_.f]
   exact Ev_b os.ev (Ev_n rfl)
  have e : mgR base a b = ([], 5) := by unfold mgR; rw [if_neg hcl, if_pos hl]
  rw [e]
  exact Ev_f (by dsimp only; rw [dn]; decide) (Ev_f (by decide) one)
 have e : mgR base a b = ([], 6) := by unfold mgR; rw [if_pos hcl]
 rw [e]
 exact Ev_f (by dsimp only; rw [decide_eq_true (show ((clL base a b).length : Int) > 0 by omega)]; decide) (Ev_f (by decide) one)
end Go.Proofs.Ytiheginanghhjaa.Q
namespace Go.Proofs.Ytiheginanghhjaa.Pure
open Go.Proofs.Ytiheginanghhjaa.Q
theorem FnMerges : ap_.Pure := law_Merges
end Go.Proofs.Ytiheginanghhjaa.Pure
namespace Go.Proofs.YtiheginanghhjaaW.PrintWords
open Go.ChangeShapes Go.WideShapes
theorem sized_ints {H : Type} {enc : TypeId × Value → H} {P : Program} {W : World} {base : Nat} {spare : Nat → Bool} {held : Bool} {t e : TypeId} {k : IntKind} {a : Option Addr} {len cap : Nat} {d : DataW H} {ps : List MemPlace} {ts : List TypeId} {ds : List (DataW H)} {j : Nat}
  (hsz : (DataW.weightsEach P ts ds).all (· ≤ reachBytes) = true) (ht : ts[j]? = some t) (hd : ds[j]? = some d) (hu : P.underlying t = some (.slice e)) (he : P.underlying e = some (.int k)) (hc : P.cellsOf e = 1) {B : Nat} (hB : P.bytesOf e = B)
  (h : DataW.Trod enc P W base spare held t (.slice a len cap) d ps) : len * B ≤ 140737488351232 := by
 obtain ⟨fuel, hf⟩ := h
 rcases open_ints hu he hc hf with ⟨hcs, _⟩ | ⟨x, l, c, zs, hcs, _, hl, _, hz, hx, _, _⟩
 ·simp [Value.cells] at hcs
  obtain ⟨rfl, rfl, rfl⟩ := hcs
  simp
 ·simp [Value.cells] at hcs
  obtain ⟨rfl, rfl, rfl⟩ := hcs
  obtain ⟨hx, _⟩ := Prod.mk.inj hx
  subst hx
  have z := sized_slice hsz ht hd hu
  rw [hB] at z
  have hl2 : len ≤ zs.length := by
   rw [hz]
   split
   ·exact hl
   ·exact Nat.le_refl _
  have h1 : (lits (H := H) k (zs.take len)).length + (lits (H := H) k (zs.drop len)).length = zs.length := by
   simp [lits]
   omega
  rw [h1] at z
  exact Nat.le_trans (Nat.mul_le_mul_right _ hl2) z
end Go.Proofs.YtiheginanghhjaaW.PrintWords
namespace Go.Proofs.Ytiheginanghhjaa.fnMerges
open Go.ChangeShapes Go.WideShapes Go.ChangeAt Go.RowKit
open Go.ChangeMaps (open_string shut_string)
theorem own : ownKnob Try.prog.godebug = none := by kernel_rfl
theorem laidOut : laidOutB Try.prog = true := by kernel_rfl
def IsRow (k : IntKind) (w : World) (a : Option Addr) (len cap : Nat) (zs : List Int) : Prop :=
 (a = none ∧ len = 0 ∧ cap = 0 ∧ zs = []) ∨
 ∃ x, a = some x ∧ len ≤ cap ∧ cap ≤ maxLen ∧ zs.length = cap ∧ (∀ i, i < zs.length → w.cell? (x.add i) = some (.int k (zs.getD i 0))) ∧ ∀ n ∈ zs, (Lit.int k n).wf = true
set_option maxRecDepth 100000 in
theorem lifted (os : Os) (started : os.Started) (H : Type) (enc : TypeId × Value → H) :
  ReturnsInHanded {} Try.checked os 6 .any (Rows.fnMergesSpec.pre6 enc Try.prog Try.f6 Rows.fnMergesRow.domain false) (Rows.fnMergesSpec.post enc Try.prog Try.f6 false true false false) := by
 refine returnsInHanded_of_change_sized (C := Try.checked) own started (by kernel_rfl) Try.func6
  (ChangeSpec.witness6 (enc := enc) (C := Try.checked) false ⟨#[], #[.slice none 0 0, .slice none 0 0], []⟩ 8 (by kernel_rfl) (by kernel_rfl) (by kernel_rfl) (by kernel_rfl)) ?_
 intro W base args ds gs before hval0 hW hcnd hsz0 _
 have hsz : (DataW.weightsEach Try.prog (Try.f6.params.toList ++ Rows.fnMergesSpec.plain.varTypes Try.prog) (ds ++ gs)).all (· ≤ reachBytes) = true := hsz0
 have hval : ∀ (j : Nat) t v, Try.f6.params[j]? = some t → args[j]? = some v → Value.okWide Try.prog W .any base t v := hval0
 have hW' := hW
 obtain ⟨p, q, hA0, hV, rfl, hfz, hnd⟩ := hW
 have hA : DataW.TrodAll enc Try.prog W 0 (fun _ => true) true Try.f6.params.toList args.toList ds p := hA0
 rw [Try.params6] at hA hval hsz
 obtain ⟨v0, vs0, d0, ds0, p0, q0, hargs, rfl, rfl, h0, r0⟩ := trodAll_cons hA
 obtain ⟨v1, vs1, d1, ds1, p1, q1, rfl, rfl, rfl, h1, r1⟩ := trodAll_cons r0
 obtain ⟨rfl, rfl, rfl⟩ := trodAll_nil r1
 obtain rfl : args = #[v0, v1] := by cases args; simp_all
 obtain ⟨rfl, rfl⟩ := trodVars_none hV
 obtain ⟨a0, len0, cap0, rfl⟩ := okWide_slice Try.underlying45 (hval 0 45 v0 rfl rfl)
 have k0 := h0
 have lt0 : ∀ x ∈ p0, x.block < W.heap.size := by obtain ⟨m, hm⟩ := k0; exact DataW.trod_lt m _ _ _ hm
 obtain ⟨z0, w0⟩ : ∃ zs, IsRow .u8 W a0 len0 cap0 zs := by
  obtain ⟨fuel, hf⟩ := h0
  rcases open_ints Try.underlying45 Try.underlying5 (by kernel_rfl) hf with ⟨hcs, _⟩ | ⟨x, l, c, zs, hcs, _, hl, hm, hz, _, hcell, hwz⟩
  ·simp [Value.cells] at hcs
   obtain ⟨rfl, rfl, rfl⟩ := hcs
   exact ⟨[], .inl ⟨rfl, rfl, rfl, rfl⟩⟩
  ·simp [Value.cells] at hcs
   obtain ⟨rfl, rfl, rfl⟩ := hcs
   exact ⟨zs, .inr ⟨_, rfl, hl, hm, by simpa using hz, hcell, hwz⟩⟩
 have y0 : len0 * 1 ≤ 140737488351232 := Go.Proofs.YtiheginanghhjaaW.PrintWords.sized_ints hsz (j := 0) (t := 45) rfl rfl Try.underlying45 Try.underlying5 (by kernel_rfl) (by kernel_rfl) h0
 obtain ⟨a1, len1, cap1, rfl⟩ := okWide_slice Try.underlying45 (hval 1 45 v1 rfl rfl)
 have k1 := h1
 have lt1 : ∀ x ∈ p1, x.block < W.heap.size := by obtain ⟨m, hm⟩ := k1; exact DataW.trod_lt m _ _ _ hm
 obtain ⟨z1, w1⟩ : ∃ zs, IsRow .u8 W a1 len1 cap1 zs := by
  obtain ⟨fuel, hf⟩ := h1
  rcases open_ints Try.underlying45 Try.underlying5 (by kernel_rfl) hf with ⟨hcs, _⟩ | ⟨x, l, c, zs, hcs, _, hl, hm, hz, _, hcell, hwz⟩
  ·simp [Value.cells] at hcs
   obtain ⟨rfl, rfl, rfl⟩ := hcs
   exact ⟨[], .inl ⟨rfl, rfl, rfl, rfl⟩⟩
  ·simp [Value.cells] at hcs
   obtain ⟨rfl, rfl, rfl⟩ := hcs
   exact ⟨zs, .inr ⟨_, rfl, hl, hm, by simpa using hz, hcell, hwz⟩⟩
 have y1 : len1 * 1 ≤ 140737488351232 := Go.Proofs.YtiheginanghhjaaW.PrintWords.sized_ints hsz (j := 1) (t := 45) rfl rfl Try.underlying45 Try.underlying5 (by kernel_rfl) (by kernel_rfl) h1
 clear hA0 hval0 hsz0 hsz
 refine (Q.ap_.walk Pure.FnMerges a0 len0 cap0 z0 a1 len1 cap1 z1 W w0 y0 w1 y1).mono fun e W' ⟨he, bel⟩ => ?_
 subst he
 exact ⟨_, rfl, _, _, _, [], _, [], hW', trodAll_mk1 (shut_bool Try.underlying4 _), (trodAll_cons_mk (Below.trod laidOut (by kernel_rfl) (of_decide_eq_true (by kernel_rfl)) k0 bel lt0) (trodAll_cons_mk (Below.trod laidOut (by kernel_rfl) (of_decide_eq_true (by kernel_rfl)) k1 bel lt1) trodAll_mk0)), rfl, bel.frame _, fun h => by cases h⟩
theorem over : Rows.fnMergesRow.holds Try.pinned (OpenSpec.ofChange Rows.fnMergesSpec) :=
 OpenClaim.holds_of_wide 6 Try.f6 rfl rfl rfl rfl rfl rfl rfl ⟨rfl, rfl, rfl, rfl, rfl⟩ rfl rfl rfl rfl rfl (by kernel_rfl) Try.func6 (by kernel_rfl)
  (of_decide_eq_true (by kernel_rfl)) (by unfold Func.isWrapper; first | (rw [if_pos (by decide +kernel)]; kernel_rfl) | (rw [if_neg (by decide +kernel)]; exact ⟨rfl, rfl⟩))
  (fun os started H enc _ => lifted os started H enc)
theorem proved : Rows.FnMergesSaid := over
#print axioms proved
end Go.Proofs.Ytiheginanghhjaa.fnMerges
namespace Go.Proofs.Ytiheginanghhjaa
theorem fnMerges_holds : Rows.FnMergesSaid := fnMerges.proved
end Go.Proofs.Ytiheginanghhjaa
