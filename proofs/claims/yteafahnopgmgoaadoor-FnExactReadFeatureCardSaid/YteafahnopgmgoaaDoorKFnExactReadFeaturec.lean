/- For every text, the law FnExactReadFeature returns true: the program reads the same feature out of it as the reference, in memory of its own. Condition: the library tables that the row lists hold what the program lays in them, as the tied card says. This text holds the last walks, the plain law and the row. -/
import Derived.Lib.ItoaLen
import Derived.Lib.SplitLaws
import Derived.Lib.IndexBytes
import Derived.KernelRfl
import Derived.HandedShaped
import Derived.Test.YteafahnopgmgoaaDoorRows
import Derived.Test.YteafahnopgmgoaaDoorCards
import Derived.Test.YteafahnopgmgoaaDoorTie
import Derived.Stop.LaidErr
import Derived.LaidMore
import Derived.Lay
import Derived.SevenTiedAt
import Derived.Stop.Joined
import Derived.Lib.LaidTab
import Derived.WalkKit
import Derived.ProofKit
import Derived.OpenShut
import Derived.ShutString
import Derived.ChangeOld
import Derived.Below
import Derived.SizedLaws
import Derived.Carry
import Derived.Test.YteafahnopgmgoaaDoorKFnExactReadFeaturea
import Derived.Test.YteafahnopgmgoaaDoorKFnExactReadFeatureb
set_option linter.unusedVariables false
set_option linter.unusedSimpArgs false
namespace Go.Proofs.YteafahnopgmgoaaDoor.Q
open Go.RowKit Go.Proofs.YteafahnopgmgoaaDoorW.PrintWords Go.Proofs.YteafahnopgmgoaaDoorW.PrintLast Go.Proofs.YteafahnopgmgoaaDoorW.PrintMore
set_option linter.unusedVariables false
theorem digit_f (c : UInt8) : spec_l01Digit.f (c.toNat : Int) = some (decide (isD c)) := by
  unfold spec_l01Digit.f
  by_cases h : (c.toNat : Int) ≥ 48
  · rw [if_pos h]
    congr 1
    rw [decide_eq_decide]
    unfold isD
    omega
  · rw [if_neg h]
    congr 1
    symm
    rw [decide_eq_false_iff_not]
    unfold isD
    omega
theorem spec_digits (neg : Bool) (l : List UInt8) (hl : 1 ≤ l.length ∧ l.length ≤ 18) (hz : l.head? = some 48 → neg = false ∧ l.length = 1) (a : Int) (ha : a = if neg then 1 else 0) : Ev (fun k => spec_l01Number.l0 k (Bs (if neg then 45 :: l else l)) a 0 a) (rdv neg l) := by
  obtain ⟨s, hs⟩ : ∃ s, s = (if neg then 45 :: l else l) := ⟨_, rfl⟩
  obtain ⟨an, hn⟩ : ∃ an : Nat, an = (if neg then 1 else 0) := ⟨_, rfl⟩
  have han : a = (an : Int) := by rw [ha, hn]; cases neg <;> rfl
  have hsl : s.length = an + l.length := by rw [hs, hn]; cases neg <;> simp <;> omega
  have hsd : s.drop an = l := by rw [hs, hn]; cases neg <;> rfl
  rw [← hs, han]
  have go : ∀ (q p : List UInt8), l = p ++ q → (∀ c ∈ p, isD c) → Ev (fun k => spec_l01Number.l0 k (Bs s) (an : Int) ((dval 0 p : Nat) : Int) ((an + p.length : Nat) : Int)) (rdv neg l) := by
    intro q
    induction q with
    | nil =>
      intro p hp hd
      rw [List.append_nil] at hp
      subst hp
      have hv : dval 0 l < 10 ^ (0 + l.length) := dval_lt 0 l 0 hd (by decide)
      have hv2 : dval 0 l < 1000000000000000000 := Nat.lt_of_lt_of_le hv (by rw [← pow18]; exact Nat.pow_le_pow_right (by decide) (by omega))
      refine Ev_suc ?_
      simp only [spec_l01Number.l0]
      refine Ev_f (by rw [Bs_size, hsl]; omega) ?_
      have e : rdv neg l = (if neg then -(dval 0 l : Int) else (dval 0 l : Int), true) := by unfold rdv; rw [if_pos ⟨hl.1, hl.2, hd, hz⟩]
      rw [e]
      cases neg with
      | true =>
        have : an = 1 := hn
        refine Ev_t (by omega) (Ev_n ?_)
        rw [wr64 (by omega) (by omega)]
        rfl
      | false =>
        have : an = 0 := hn
        exact Ev_f (by omega) (Ev_n rfl)
    | cons c q ih =>
      intro p hp hd
      have hlen : p.length < l.length := by rw [hp]; simp
      have hc : bt (Bs s) ((an + p.length : Nat) : Int) = (c.toNat : Int) := by
        rw [bt_in s (an + p.length) (by omega)]
        congr 2
        have h1 : s[an + p.length]'(by omega) = (s.drop an)[p.length]'(by rw [hsd]; exact hlen) := by rw [List.getElem_drop]
        rw [h1]
        simp [hsd, hp]
      have hv : dval 0 p < 10 ^ (0 + p.length) := dval_lt 0 p 0 hd (by decide)
      have hv2 : dval 0 p < 100000000000000000 := Nat.lt_of_lt_of_le hv (by rw [show (100000000000000000 : Nat) = 10 ^ 17 by decide]; exact Nat.pow_le_pow_right (by decide) (by omega))
      refine Ev_suc ?_
      simp only [spec_l01Number.l0]
      rw [hc]
      refine Ev_t (by rw [Bs_size, hsl]; omega) (Ev_t (by omega) (Ev_b (Ev_c (digit_f c)) ?_))
      by_cases h1 : isD c
      · refine Ev_t (by simpa using h1) ?_
        have h2 := h1
        unfold isD at h2
        have := ih (p ++ [c]) (by rw [hp]; simp) (fun x hx => by
          rcases List.mem_append.1 hx with h | h
          · exact hd x h
          · have : x = c := by simpa using h
            subst this
            exact h1)
        rw [dval_snoc] at this
        rw [wr64 (x := 10 * ((dval 0 p : Nat) : Int)) (by omega) (by omega), wr64s (an + p.length) (by omega), wr64 (x := 10 * ((dval 0 p : Nat) : Int) + _) (by omega) (by omega), show 10 * ((dval 0 p : Nat) : Int) + ((c.toNat : Int) - 48) % 256 = ((dval 0 p * 10 + (c.toNat - 48) : Nat) : Int) by omega]
        simpa [Nat.add_assoc] using this
      · refine Ev_f (by simpa using h1) (Ev_n ?_)
        unfold rdv
        rw [if_neg (fun h2 => h1 (h2.2.2.1 c (by rw [hp]; simp)))]
  have := go l [] rfl (fun _ h => by cases h)
  simpa [dval_nil] using this
theorem read_spec (s : ByteArray) (hs : (s.size : Int) ≤ 1048576) : Ev (fun k => spec_l01Number.f k s) (rdec s) := by
  rw [← Bs_data s] at hs ⊢
  obtain ⟨l, hl⟩ : ∃ l, l = s.data.toList := ⟨_, rfl⟩
  rw [← hl] at hs ⊢
  rw [Bs_size] at hs
  have core : ∀ (neg : Bool) (d : List UInt8), (l = if neg then 45 :: d else d) → Ev (fun k => spec_l01Number.j1 k (Bs l) (if neg then 1 else 0)) (rdv neg d) := by
    intro neg d hd
    have hll : l.length = (if neg then 1 else 0) + d.length := by rw [hd]; cases neg <;> simp <;> omega
    obtain ⟨an, hn⟩ : ∃ an : Nat, an = (if neg then 1 else 0) := ⟨_, rfl⟩
    have han : (if neg then (1 : Int) else 0) = (an : Int) := by rw [hn]; cases neg <;> rfl
    rw [← hn] at hll
    have bad : ¬ (1 ≤ d.length ∧ d.length ≤ 18) → rdv neg d = (0, false) := fun h => by
      unfold rdv
      rw [if_neg (fun h2 => h ⟨h2.1, h2.2.1⟩)]
    have no : rdv neg d = (0, false) → Ev (fun k => spec_l01Number.j2 k (Bs l) (an : Int) true) (rdv neg d) := fun h => by
      refine Ev_suc ?_
      simp only [spec_l01Number.j2]
      exact Ev_t (by simp) (Ev_n h.symm)
    rw [han]
    refine Ev_suc ?_
    simp only [spec_l01Number.j1]
    rw [Bs_size]
    by_cases h1 : (l.length : Int) = (an : Int)
    · exact Ev_t h1 (no (bad (by omega)))
    refine Ev_f h1 ?_
    rw [wr64 (by omega) (by omega)]
    by_cases h2 : 18 < d.length
    · exact Ev_t (by omega) (no (bad (by omega)))
    refine Ev_f (by omega) (Ev_t (by omega) (Ev_t (by omega) ?_))
    have hb : bt (Bs l) (an : Int) = ((d[0]'(by omega)).toNat : Int) := by
      rw [bt_in l an (by omega)]
      congr 2
      cases neg with
      | true =>
        have : an = 1 := hn
        subst this
        simp [hd]
      | false =>
        have : an = 0 := hn
        subst this
        simp [hd]
    rw [hb]
    have hh : d.head? = some (d[0]'(by omega)) := by
      cases d with
      | nil => simp at hll; omega
      | cons a r => rfl
    have fin : (d.head? = some 48 → neg = false ∧ d.length = 1) → Ev (fun k => spec_l01Number.j2 k (Bs l) (an : Int) false) (rdv neg d) := fun hz => by
      refine Ev_suc ?_
      simp only [spec_l01Number.j2]
      refine Ev_f (by simp) ?_
      have := spec_digits neg d ⟨by omega, by omega⟩ hz (an : Int) han.symm
      rw [← hd] at this
      exact this
    by_cases h3 : d[0]'(by omega) = 48
    · have h48 : d.head? = some 48 := by rw [hh, h3]
      refine Ev_t (by rw [h3]; rfl) ?_
      by_cases h4 : (l.length : Int) > 1
      · rw [decide_eq_true h4]
        refine no ?_
        unfold rdv
        rw [if_neg (fun h => by
          obtain ⟨e1, e2⟩ := h.2.2.2 h48
          subst e1
          have : an = 0 := hn
          omega)]
      · rw [decide_eq_false h4]
        refine fin (fun _ => ?_)
        cases neg with
        | true =>
          have : an = 1 := hn
          omega
        | false =>
          have : an = 0 := hn
          exact ⟨rfl, by omega⟩
    · refine Ev_f (fun e => h3 ?_) (fin (fun e => absurd (by rw [hh] at e; exact Option.some.inj e) h3))
      exact (u8_eq _ 48 (by decide)).1 e
  simp only [spec_l01Number.f]
  rw [show rdec (Bs l) = rdl l by unfold rdec; rw [Bs_list]]
  have j : ∀ b : Bool, Ev (fun k => spec_l01Number.j1 k (Bs l) (if b then 1 else 0)) (rdl l) → Ev (fun k => spec_l01Number.j0 k (Bs l) 0 b) (rdl l) := fun b h => by
    refine Ev_suc ?_
    simp only [spec_l01Number.j0]
    cases b with
    | true => exact Ev_t rfl h
    | false => exact Ev_f (by decide) h
  cases l with
  | nil => exact Ev_f (by simp [Bs_size]) (j false (core false [] rfl))
  | cons c r =>
    refine Ev_t (by rw [Bs_size, List.length_cons]; omega) (Ev_t (by rw [Bs_size, List.length_cons]; omega) ?_)
    have hb : bt (Bs (c :: r)) 0 = (c.toNat : Int) := bt_in (c :: r) 0 (by simp)
    rw [hb]
    by_cases hc : c = 45
    · subst hc
      have : (((45 : UInt8).toNat : Int) == 45) = true := rfl
      rw [this]
      refine j true ?_
      rw [rdl, if_pos rfl]
      exact core true r rfl
    · have : ((c.toNat : Int) == 45) = false := by
        rw [beq_eq_false_iff_ne]
        intro e
        exact hc ((u8_eq c 45 (by decide)).1 e)
      rw [this]
      refine j false ?_
      rw [rdl, if_neg hc]
      exact core false (c :: r) rfl
def spl (c : UInt8) : List UInt8 → List (List UInt8)
  | [] => [[]]
  | b :: l => if b = c then [] :: spl c l else match spl c l with
    | h :: t => (b :: h) :: t
    | [] => [[b]]
def glue (p : List UInt8) : List (List UInt8) → List (List UInt8)
  | h :: t => (p ++ h) :: t
  | [] => [p]
theorem spl_ne (c : UInt8) : ∀ l, spl c l ≠ []
  | [] => by simp [spl]
  | b :: l => by
    rw [spl]
    split
    · simp
    · split <;> simp
theorem spl_len (c : UInt8) : ∀ l, (spl c l).length ≤ l.length + 1
  | [] => by simp [spl]
  | b :: l => by
    have := spl_len c l
    rw [spl]
    split
    · simp only [List.length_cons]; omega
    · split
      · rename_i h t e
        rw [e] at this
        simp only [List.length_cons] at this ⊢
        omega
      · simp
theorem glue_nil (xs : List (List UInt8)) (h : xs ≠ []) : glue [] xs = xs := by
  cases xs with
  | nil => exact absurd rfl h
  | cons a t => rfl
theorem glue_cons (p : List UInt8) (b c : UInt8) (l : List UInt8) (h : b ≠ c) : glue p (spl c (b :: l)) = glue (p ++ [b]) (spl c l) := by
  rw [spl, if_neg h]
  cases hs : spl c l with
  | nil => exact absurd hs (spl_ne c l)
  | cons a t => simp [glue]
theorem splitK_eq (c : UInt8) : ∀ s : List UInt8, Go.Lib.splitK [c] 0 (Go.Lib.count s [c]) s = spl c s
  | [] => by
    rw [Go.Lib.count_miss (by simp [Go.Lib.index])]
    rfl
  | b :: l => by
    have ih := splitK_eq c l
    by_cases h : b = c
    · subst h
      rw [Go.Lib.count_cons_eq, Nat.add_comm, spl, if_pos rfl, ← ih]
      have hix : Go.Lib.index (b :: l) [b] = 0 := by rw [Go.Lib.index]; simp [List.isPrefixOf]
      rw [Go.Lib.splitK, hix]
      rfl
    · rw [Go.Lib.count_cons_ne b c l h]
      have hp : ([c] : List UInt8).isPrefixOf (b :: l) = false := by simp [List.isPrefixOf, Ne.symm h]
      have hix : Go.Lib.index (b :: l) [c] = if Go.Lib.index l [c] == -1 then -1 else Go.Lib.index l [c] + 1 := by rw [Go.Lib.index, hp]; simp
      rw [spl, if_neg h]
      by_cases hm : Go.Lib.index l [c] = -1
      · rw [Go.Lib.count_miss hm] at ih ⊢
        have e : spl c l = [l] := ih.symm
        rw [e]
        rfl
      · have hge := Go.Lib.index_ge l [c]
        obtain ⟨j, hj⟩ : ∃ j : Nat, Go.Lib.index l [c] = j := ⟨(Go.Lib.index l [c]).toNat, by omega⟩
        have hk : ∃ k, Go.Lib.count l [c] = k + 1 := ⟨Go.Lib.count (l.drop (j + 1)) [c], by rw [Go.Lib.count_hit (by simp) hj]; simp; omega⟩
        obtain ⟨k, hk⟩ := hk
        rw [hk] at ih ⊢
        have hne : ¬ (Go.Lib.index l [c] == -1) = true := fun e => hm (beq_iff_eq.1 e)
        have hix2 : Go.Lib.index (b :: l) [c] = ((j + 1 : Nat) : Int) := by rw [hix, if_neg hne, hj]; omega
        have hne2 : ¬ (Go.Lib.index (b :: l) [c] == -1) = true := fun e => by have := beq_iff_eq.1 e; omega
        rw [Go.Lib.splitK, if_neg hne, hj] at ih
        rw [Go.Lib.splitK, if_neg hne2, hix2, ← ih]
        simp
theorem split_f (s : ByteArray) (hs : (s.size : Int) ≤ 1048576) (c : UInt8) : strings_Split.f s (Bs [c]) = some ((spl c s.data.toList).map Bs) := by
  unfold strings_Split.f
  rw [if_pos ⟨by omega, by rw [Bs_size]; simp⟩]
  congr 1
  have h := Go.Lib.splitB_data (Bs [c]) 0 (Go.Lib.countB s (Bs [c])) s
  have e : (Bs [c]).data.toList = [c] := Bs_list _
  unfold Go.Lib.countB at h
  rw [e, splitK_eq] at h
  rw [← h, List.map_map]
  unfold Go.Lib.countB
  rw [e]
  conv => lhs; rw [← List.map_id (Go.Lib.splitB (Bs [c]) 0 (Go.Lib.count s.data.toList [c]) s)]
  apply List.map_congr_left
  intro x _
  exact (Bs_data x).symm
theorem split_spec (L : List UInt8) (hL : (L.length : Int) ≤ 1048576) (c : UInt8) : Ev (fun k => spec_l01Split.f k (Bs L) (c.toNat : Int)) ((spl c L).map Bs) := by
  have ex : ∀ (a p q : List UInt8) (n m : Nat), L = a ++ p ++ q → a.length = n → n + p.length = m → (Bs L).extract n m = Bs p := fun a p q n m h1 h2 h3 => by
    rw [← Bs_data ((Bs L).extract n m), Go.Lib.extract_data, Bs_list, h1]
    congr 1
    subst h2 h3
    simp
  have go : ∀ (q p a : List UInt8) (x5 : List ByteArray), L = a ++ p ++ q → x5.length ≤ a.length → Ev (fun k => spec_l01Split.l0 k (Bs L) (c.toNat : Int) x5 (a.length : Int) ((a.length + p.length : Nat) : Int)) (x5 ++ (glue p (spl c q)).map Bs) := by
    intro q
    induction q with
    | nil =>
      intro p a x5 h h5
      have hl : L.length = a.length + p.length := by rw [h]; simp
      refine Ev_suc ?_
      simp only [spec_l01Split.l0]
      rw [Bs_size]
      refine Ev_f (by omega) (Ev_t (by omega) (Ev_t (by omega) (Ev_t (by omega) (Ev_n ?_))))
      rw [Int.toNat_natCast, ex a p [] a.length L.length h rfl hl.symm]
      simp [spl, glue]
    | cons b q ih =>
      intro p a x5 h h5
      have hl : L.length = a.length + p.length + (q.length + 1) := by rw [h]; simp; omega
      have hb : bt (Bs L) ((a.length + p.length : Nat) : Int) = (b.toNat : Int) := by
        rw [bt_in L (a.length + p.length) (by omega)]
        congr 2
        simp [h]
      refine Ev_suc ?_
      simp only [spec_l01Split.l0]
      rw [hb, Bs_size]
      refine Ev_t (by omega) (Ev_t (by omega) ?_)
      by_cases hc : b = c
      · subst hc
        refine Ev_t rfl (Ev_t (by omega) (Ev_t (by omega) (Ev_t (by omega) (Ev_t (by omega) ?_))))
        rw [Int.toNat_natCast, Int.toNat_natCast, ex a p (b :: q) a.length (a.length + p.length) h rfl rfl, wr64s (a.length + p.length) (by omega)]
        have := ih [] (a ++ p ++ [b]) (x5 ++ [Bs p]) (by rw [h]; simp) (by simp; omega)
        rw [glue_nil _ (spl_ne b q)] at this
        rw [spl, if_pos rfl]
        simpa [glue, Nat.add_assoc] using this
      · refine Ev_f (fun e => hc ?_) ?_
        · apply UInt8.toNat.inj
          omega
        · rw [wr64s (a.length + p.length) (by omega), glue_cons p b c q hc]
          have := ih (p ++ [b]) a x5 (by rw [h]; simp) h5
          simpa [Nat.add_assoc] using this
  have := go L [] [] [] rfl (by simp)
  rw [glue_nil _ (spl_ne c L)] at this
  simp only [spec_l01Split.f]
  simpa using this
instance (x : Int) : Decidable (nmOk x) := inferInstanceAs (Decidable (_ ∧ _))
def rds : List ByteArray → Option (List Int)
  | [] => some []
  | s :: r => if (rdec s).2 = true ∧ nmOk (rdec s).1 then (rds r).map ((rdec s).1 :: ·) else none
theorem rds_len : ∀ (l : List ByteArray) (q : List Int), rds l = some q → q.length = l.length
  | [], q, h => by
    have : q = [] := (Option.some.inj h).symm
    rw [this]; rfl
  | s :: r, q, h => by
    rw [rds] at h
    split at h
    · obtain ⟨x, hx, rfl⟩ := Option.map_eq_some_iff.1 h
      simp [rds_len r x hx]
    · cases h
theorem rds_ok : ∀ (l : List ByteArray) (q : List Int), rds l = some q → ∀ x ∈ q, nmOk x
  | [], q, h => by
    have : q = [] := (Option.some.inj h).symm
    rw [this]; simp
  | s :: r, q, h => by
    rw [rds] at h
    split at h
    · rename_i hc
      obtain ⟨x, hx, rfl⟩ := Option.map_eq_some_iff.1 h
      intro y hy
      rcases List.mem_cons.1 hy with rfl | hy
      · exact hc.2
      · exact rds_ok r x hx y hy
    · cases h
def RL (L : List UInt8) : List Int × Bool := if L = [45] then ([], true) else match rds ((spl 44 L).map Bs) with
  | some q => if 64 < q.length then ([], false) else (q, true)
  | none => ([], false)
theorem RL_ok (L : List UInt8) : (RL L).1.length ≤ 64 ∧ ∀ x ∈ (RL L).1, nmOk x := by
  unfold RL
  split
  · simp
  · split
    · rename_i q hq
      split
      · simp
      · exact ⟨by simp only []; omega, rds_ok _ q hq⟩
    · simp
theorem rdO_in (l : List ByteArray) (i : Nat) (h : i < l.length) : rdOf ByteArray.empty l (i : Int) = l[i] := by unfold rdOf; exact getD_in l _ i h
theorem nm_f (x : Int) : impl_within.f x (-1000000000000) 1000000000000 = some (decide (nmOk x)) ∧ spec_l00In.f x (-1000000000000) 1000000000000 = some (decide (nmOk x)) := by
  rw [within_f, in_f]
  have : (decide (-1000000000000 ≤ x) && decide (x ≤ 1000000000000)) = decide (nmOk x) := by
    by_cases h : nmOk x
    · have h2 := h
      unfold nmOk at h2
      rw [decide_eq_true h, decide_eq_true h2.1, decide_eq_true h2.2]
      rfl
    · rw [decide_eq_false h]
      by_cases h1 : -1000000000000 ≤ x
      · rw [decide_eq_false (fun h2 => h ⟨h1, h2⟩), Bool.and_false]
      · rw [decide_eq_false h1, Bool.false_and]
  rw [this]
  exact ⟨rfl, rfl⟩
theorem readlist_ev (s : ByteArray) (hs : (s.size : Int) ≤ 1048576) : Ev (fun k => spec_ReadList.f k s) (RL s.data.toList) ∧ Ev (fun k => impl_ReadList.f k s) (RL s.data.toList) := by
  obtain ⟨L, hL⟩ : ∃ L, L = s.data.toList := ⟨_, rfl⟩
  have hs2 := hs
  rw [← Bs_data s, ← hL, Bs_size] at hs2
  rw [← hL]
  have hsB : s = Bs L := by rw [hL, Bs_data]
  simp only [spec_ReadList.f, impl_ReadList.f]
  have e0 : s.toList = L := by rw [ByteArray.toList_eq, hL]
  rw [e0]
  by_cases c : L = [45]
  · unfold RL
    rw [if_pos c]
    exact ⟨Ev_t c (Ev_n rfl), Ev_t c (Ev_n rfl)⟩
  obtain ⟨P, hP⟩ : ∃ P, P = (spl 44 L).map Bs := ⟨_, rfl⟩
  have hPl : P.length ≤ L.length + 1 := by rw [hP, List.length_map]; exact spl_len 44 L
  have hsz : ∀ x ∈ P, (x.size : Int) ≤ 1048576 := by
    have : ∀ (l : List UInt8), ∀ x ∈ spl 44 l, x.length ≤ l.length := by
      intro l
      induction l with
      | nil => intro x hx; simp [spl] at hx; simp [hx]
      | cons b l ih =>
        intro x hx
        rw [spl] at hx
        split at hx
        · rcases List.mem_cons.1 hx with rfl | hx
          · simp
          · have := ih x hx; simp; omega
        · split at hx
          · rename_i h t e
            rcases List.mem_cons.1 hx with rfl | hx
            · have := ih h (by rw [e]; simp); simp; omega
            · have := ih x (by rw [e]; simp [hx]); simp; omega
          · have : x = [b] := by simpa using hx
            subst this
            simp
    intro x hx
    rw [hP] at hx
    obtain ⟨y, hy, rfl⟩ := List.mem_map.1 hx
    have := this L y hy
    rw [Bs_size]
    omega
  have hsplit : strings_Split.f s (⟨#[44]⟩ : ByteArray) = some P := by
    have := split_f s hs 44
    rw [← hL, ← hP] at this
    exact this
  have hspec : Ev (fun k => spec_l01Split.f k s 44) P := by
    rw [hsB, hP]
    exact split_spec L hs2 44
  have eRL : RL L = match rds P with
      | some q => if 64 < q.length then ([], false) else (q, true)
      | none => ([], false) := by unfold RL; rw [if_neg c, ← hP]
  refine ⟨Ev_f c (Ev_b hspec ?_), Ev_f c (Ev_b (Ev_c hsplit) ?_)⟩
  · by_cases h64 : (P.length : Int) > 64
    · refine Ev_t h64 (Ev_n ?_)
      rw [eRL]
      cases hr : rds P with
      | none => rfl
      | some q =>
        have := rds_len P q hr
        simp only []
        rw [if_pos (by omega)]
    · refine Ev_f h64 ?_
      have go : ∀ (d i : Nat) (acc : List Int), i + d = P.length → acc.length = i → Ev (fun k => spec_ReadList.l0 k P acc i) (match rds (P.drop i) with | some q => (acc ++ q, true) | none => ([], false)) := by
        intro d
        induction d with
        | zero =>
          intro i acc h1 h2
          refine Ev_suc ?_
          simp only [spec_ReadList.l0]
          rw [List.drop_of_length_le (by omega)]
          exact Ev_f (by omega) (Ev_n (by simp [rds]))
        | succ d ih =>
          intro i acc h1 h2
          have hi : i < P.length := by omega
          refine Ev_suc ?_
          simp only [spec_ReadList.l0]
          rw [rdO_in P i hi, List.drop_eq_getElem_cons hi, rds]
          refine Ev_t (by omega) (Ev_t (by omega) (Ev_b (read_spec P[i] (hsz _ (List.getElem_mem _))) ?_))
          by_cases c1 : (rdec P[i]).2 = true
          · refine Ev_t c1 (Ev_b (Ev_c (nm_f _).2) ?_)
            by_cases c2 : nmOk (rdec P[i]).1
            · refine Ev_t (by simpa using c2) (Ev_t (by omega) ?_)
              rw [wr64s i (by omega), if_pos ⟨c1, c2⟩]
              have := ih (i + 1) (acc ++ [(rdec P[i]).1]) (by omega) (by simp [h2])
              refine Ev_at this ?_
              cases rds (P.drop (i + 1)) with
              | none => rfl
              | some q => simp
            · refine Ev_f (by simpa using c2) (Ev_n ?_)
              rw [if_neg (fun h => c2 h.2)]
          · refine Ev_f c1 (Ev_n ?_)
            rw [if_neg (fun h => c1 h.1)]
      have := go P.length 0 [] (by omega) rfl
      rw [List.drop_zero] at this
      refine Ev_at this ?_
      rw [eRL]
      cases hr : rds P with
      | none => rfl
      | some q =>
        have := rds_len P q hr
        simp only [List.nil_append]
        rw [if_neg (by omega)]
  · have go : ∀ (d i : Nat) (acc : List Int), i + d = P.length → acc.length = i → Ev (fun k => impl_ReadList.l0 k acc P (P.length : Int) i) (match rds (P.drop i) with | some q => if 64 < (acc ++ q).length then ([], false) else (acc ++ q, true) | none => ([], false)) := by
      intro d
      induction d with
      | zero =>
        intro i acc h1 h2
        refine Ev_suc ?_
        simp only [impl_ReadList.l0]
        rw [List.drop_of_length_le (by omega)]
        refine Ev_f (by omega) ?_
        simp only [rds, List.append_nil]
        by_cases c64 : 64 < acc.length
        · rw [if_pos c64]; exact Ev_t (by omega) (Ev_n rfl)
        · rw [if_neg c64]; exact Ev_f (by omega) (Ev_n rfl)
      | succ d ih =>
        intro i acc h1 h2
        have hi : i < P.length := by omega
        refine Ev_suc ?_
        simp only [impl_ReadList.l0]
        rw [rdO_in P i hi, List.drop_eq_getElem_cons hi, rds]
        refine Ev_t (by omega) (Ev_t (by omega) (Ev_t (by omega) (Ev_b (read_impl P[i]) ?_)))
        by_cases c1 : (rdec P[i]).2 = true
        · refine Ev_t c1 (Ev_b (Ev_c (nm_f _).1) ?_)
          by_cases c2 : nmOk (rdec P[i]).1
          · refine Ev_t (by simpa using c2) (Ev_t (by omega) ?_)
            rw [wr64s i (by omega), if_pos ⟨c1, c2⟩]
            have := ih (i + 1) (acc ++ [(rdec P[i]).1]) (by omega) (by simp [h2])
            refine Ev_at this ?_
            cases rds (P.drop (i + 1)) with
            | none => rfl
            | some q => simp
          · refine Ev_f (by simpa using c2) (Ev_n ?_)
            rw [if_neg (fun h => c2 h.2)]
        · refine Ev_f c1 (Ev_n ?_)
          rw [if_neg (fun h => c1 h.1)]
    have := go P.length 0 [] (by omega) rfl
    rw [List.drop_zero] at this
    refine Ev_at this ?_
    rw [eRL]
    cases hr : rds P with
    | none => rfl
    | some q => simp
end Go.Proofs.YteafahnopgmgoaaDoor.Q
namespace Go.Proofs.YteafahnopgmgoaaDoor.Q
open Go.RowKit Go.Proofs.YteafahnopgmgoaaDoorW.PrintWords Go.Proofs.YteafahnopgmgoaaDoorW.PrintLast Go.Proofs.YteafahnopgmgoaaDoorW.PrintMore
set_option linter.unusedVariables false
theorem Ev_all {α : Type} {g : Nat → Option α} {r : α} {n : Nat} (h : ∀ k, n < k → g k = some r) : Ev g r := ⟨n + 1, fun k hk => h k (by omega)⟩
theorem spl_miss (c : UInt8) (L : List UInt8) (h : Go.Lib.index L [c] = -1) : spl c L = [L] := by
  rw [← splitK_eq, Go.Lib.count_miss h]
  rfl
theorem spl_hit (c : UInt8) (L : List UInt8) (j : Nat) (h : Go.Lib.index L [c] = j) : spl c L = L.take j :: spl c (L.drop (j + 1)) := by
  have hne : ¬ (Go.Lib.index L [c] == -1) = true := fun e => by have := beq_iff_eq.1 e; omega
  rw [← splitK_eq c L, ← splitK_eq c (L.drop (j + 1)), Go.Lib.count_hit (by simp) h, Nat.add_comm]
  rw [Go.Lib.splitK, if_neg hne, h]
  simp
theorem spl_pos (c : UInt8) (l : List UInt8) : 1 ≤ (spl c l).length := by
  have := spl_ne c l
  cases h : spl c l with
  | nil => exact absurd h this
  | cons a t => simp
theorem spl_one (c : UInt8) (L : List UInt8) (h : (spl c L).length = 1) : spl c L = [L] := by
  have hge := Go.Lib.index_ge L [c]
  by_cases hm : Go.Lib.index L [c] = -1
  · exact spl_miss c L hm
  · obtain ⟨j, hj⟩ : ∃ j : Nat, Go.Lib.index L [c] = j := ⟨(Go.Lib.index L [c]).toNat, by omega⟩
    rw [spl_hit c L j hj] at h
    have := spl_pos c (L.drop (j + 1))
    simp only [List.length_cons] at h
    omega
theorem spl_none (c : UInt8) : ∀ L : List UInt8, c ∉ L → spl c L = [L]
  | [], _ => rfl
  | b :: l, h => by
    have hb : b ≠ c := fun e => h (by rw [e]; simp)
    rw [spl, if_neg hb, spl_none c l (fun e => h (List.mem_cons_of_mem _ e))]
theorem spl_mem (c b : UInt8) (hbc : b ≠ c) : ∀ L : List UInt8, b ∈ L → ∃ x ∈ spl c L, b ∈ x
  | [], h => by cases h
  | a :: l, h => by
    rcases List.mem_cons.1 h with e | h
    · subst e
      rw [spl, if_neg hbc]
      cases hs : spl c l with
      | nil => exact absurd hs (spl_ne c l)
      | cons y t => exact ⟨b :: y, by simp, by simp⟩
    · obtain ⟨x, hx, hb⟩ := spl_mem c b hbc l h
      rw [spl]
      split
      · exact ⟨x, List.mem_cons_of_mem _ hx, hb⟩
      · cases hs : spl c l with
        | nil => exact absurd hs (spl_ne c l)
        | cons y t =>
          rw [hs] at hx
          rcases List.mem_cons.1 hx with rfl | hx
          · exact ⟨a :: x, by simp, by simp [hb]⟩
          · exact ⟨x, by simp [hx], hb⟩
theorem rds_bad : ∀ (l : List ByteArray) (x : ByteArray), x ∈ l → (rdec x).2 = false → rds l = none
  | [], x, h, _ => by cases h
  | s :: r, x, h, hb => by
    rw [rds]
    rcases List.mem_cons.1 h with rfl | h
    · rw [if_neg (fun h2 => by rw [hb] at h2; cases h2.1)]
    · split
      · rw [rds_bad r x h hb]; rfl
      · rfl
theorem rdec_bad (l : List UInt8) (b : UInt8) (hb : b ∈ l) (h1 : ¬ isD b) (h2 : b ≠ 45) : (rdec (Bs l)).2 = false := by
  have bad : ∀ (neg : Bool) (d : List UInt8), b ∈ d → (rdv neg d).2 = false := fun neg d h => by
    unfold rdv
    rw [if_neg (fun h3 => h1 (h3.2.2.1 b h))]
  unfold rdec
  rw [Bs_list]
  cases l with
  | nil => cases hb
  | cons c r =>
    rw [rdl]
    split
    · rename_i hc
      rcases List.mem_cons.1 hb with e | hb
      · exact absurd (e.trans hc) h2
      · exact bad true r hb
    · exact bad false _ hb
theorem RL_bad (L : List UInt8) (h : (32 : UInt8) ∈ L) : (RL L).2 = false := by
  unfold RL
  rw [if_neg (fun e => by rw [e] at h; simp at h)]
  obtain ⟨x, hx, hb⟩ := spl_mem 44 32 (by decide) L h
  rw [rds_bad _ (Bs x) (List.mem_map.2 ⟨x, hx, rfl⟩) (rdec_bad x 32 hb (by unfold isD; decide) (by decide))]
theorem RL_nil : (RL []).2 = false := by
  unfold RL
  rw [if_neg (by simp)]
  have : rds ((spl 44 []).map Bs) = none := by
    rw [spl, List.map_cons, List.map_nil, rds]
    have : (rdec (Bs [])).2 = false := by
      unfold rdec
      rw [Bs_list, rdl]
      unfold rdv
      rw [if_neg (by simp)]
    rw [if_neg (fun h => by rw [this] at h; cases h.1)]
  rw [this]
theorem one_spec (a : ByteArray) (l : List Int) : ∃ b, (b = true → l.length = 6 ∧ l.all okB = true) ∧ Ev (fun k => spec_l26One.f k [(⟨a, l⟩ : S27)]) b ∧ Ev (fun k => impl_ValidFeature.f k a l) b := by
  obtain ⟨b, hb, hk⟩ := valid_ev a l
  exact ⟨b, hb, Ev_all (fun k h => (hk k h).1), Ev_all (fun k h => (hk k h).2)⟩
theorem readfeature_ev (s : ByteArray) (hs : (s.size : Int) ≤ 1048576) : ∃ (r0 : ByteArray) (r1 : List Int) (r2 : Bool), (r1.length : Int) ≤ 1048576 ∧ Ev (fun k => spec_ReadFeature.f k s) (r0, r1, r2) ∧ Ev (fun k => impl_ReadFeature.f k s) (r0, r1, r2) := by
  obtain ⟨L, hL⟩ : ∃ L, L = s.data.toList := ⟨_, rfl⟩
  have hsB : s = Bs L := by rw [hL, Bs_data]
  subst hsB
  rw [Bs_size] at hs
  have hsplit : Ev (fun k => spec_l01Split.f k (Bs L) 32) ((spl 32 L).map Bs) := split_spec L hs 32
  have hcut : strings_Cut.f (Bs L) (⟨#[32]⟩ : ByteArray) = some (Bs (Go.Lib.cut L [32]).1, Bs (Go.Lib.cut L [32]).2.1, (Go.Lib.cut L [32]).2.2) := by
    unfold strings_Cut.f
    rw [if_pos (by rw [Bs_size]; omega), Bs_list, show (⟨#[32]⟩ : ByteArray).data.toList = [32] from rfl]
  have fail : ∀ c, Go.Lib.cut L [32] = c → (RL c.2.1).2 = false → (c.2.1.length : Int) ≤ 1048576 → Ev (fun k => impl_ReadFeature.f k (Bs L)) ((⟨#[]⟩ : ByteArray), ([] : List Int), false) := fun c hc hr hlen => by
    simp only [impl_ReadFeature.f]
    rw [hcut, hc]
    have h2 := (readlist_ev (Bs c.2.1) (by rw [Bs_size]; exact hlen)).2
    rw [Bs_list] at h2
    exact Ev_b (Ev_n rfl) (Ev_b h2 (Ev_f (by rw [hr]; decide) (Ev_n rfl)))
  have sfail : (spl 32 L).length ≠ 2 → Ev (fun k => spec_ReadFeature.f k (Bs L)) ((⟨#[]⟩ : ByteArray), ([] : List Int), false) := fun h => by
    simp only [spec_ReadFeature.f]
    exact Ev_b hsplit (Ev_f (by rw [List.length_map]; omega) (Ev_n rfl))
  have hge := Go.Lib.index_ge L [32]
  by_cases hm : Go.Lib.index L [32] = -1
  · have h1 := spl_miss 32 L hm
    have hc : Go.Lib.cut L [32] = (L, [], false) := by unfold Go.Lib.cut; rw [if_neg (by omega)]
    exact ⟨_, _, _, by simp, sfail (by rw [h1]; simp), fail _ hc RL_nil (by simp)⟩
  obtain ⟨j, hj⟩ : ∃ j : Nat, Go.Lib.index L [32] = j := ⟨(Go.Lib.index L [32]).toNat, by omega⟩
  have h1 := spl_hit 32 L j hj
  have hc : Go.Lib.cut L [32] = (L.take j, L.drop (j + 1), true) := by
    unfold Go.Lib.cut
    rw [if_pos (by omega), hj]
    simp
  have hdl : ((L.drop (j + 1)).length : Int) ≤ 1048576 := by rw [List.length_drop]; omega
  by_cases h2 : (spl 32 (L.drop (j + 1))).length = 1
  · have h3 := spl_one 32 _ h2
    rw [h3] at h1
    obtain ⟨e1, e2⟩ := readlist_ev (Bs (L.drop (j + 1))) (by rw [Bs_size]; exact hdl)
    rw [Bs_list] at e1 e2
    have hok := RL_ok (L.drop (j + 1))
    obtain ⟨⟨q, ok⟩, hq⟩ : ∃ r, r = RL (L.drop (j + 1)) := ⟨_, rfl⟩
    rw [← hq] at e1 e2 hok
    have hP : (spl 32 L).map Bs = [Bs (L.take j), Bs (L.drop (j + 1))] := by rw [h1]; rfl
    have r0 : rdOf ByteArray.empty [Bs (L.take j), Bs (L.drop (j + 1))] 0 = Bs (L.take j) := rfl
    have r1 : rdOf ByteArray.empty [Bs (L.take j), Bs (L.drop (j + 1))] 1 = Bs (L.drop (j + 1)) := rfl
    rw [hP] at hsplit
    cases ok with
    | false =>
      refine ⟨⟨#[]⟩, [], false, by simp, ?_, ?_⟩
      · simp only [spec_ReadFeature.f]
        refine Ev_b hsplit (Ev_t (by simp) (Ev_t (by simp) ?_))
        rw [r1]
        exact Ev_b e1 (Ev_t (by simp) (Ev_f (by simp) (Ev_n rfl)))
      · simp only [impl_ReadFeature.f]
        rw [hcut, hc]
        exact Ev_b (Ev_n rfl) (Ev_b e2 (Ev_f (by simp) (Ev_n rfl)))
    | true =>
      obtain ⟨b, hb, v1, v2⟩ := one_spec (Bs (L.take j)) q
      cases b with
      | false =>
        refine ⟨⟨#[]⟩, [], false, by simp, ?_, ?_⟩
        · simp only [spec_ReadFeature.f]
          refine Ev_b hsplit (Ev_t (by simp) (Ev_t (by simp) ?_))
          rw [r1, r0]
          exact Ev_b e1 (Ev_t (by simp) (Ev_t rfl (Ev_b v1 (Ev_f (by decide) (Ev_n rfl)))))
        · simp only [impl_ReadFeature.f]
          rw [hcut, hc]
          exact Ev_b (Ev_n rfl) (Ev_b e2 (Ev_t rfl (Ev_b v2 (Ev_f (by decide) (Ev_n rfl)))))
      | true =>
        refine ⟨Bs (L.take j), q, true, by have := hok.1; simp only [] at this; omega, ?_, ?_⟩
        · simp only [spec_ReadFeature.f]
          refine Ev_b hsplit (Ev_t (by simp) (Ev_t (by simp) ?_))
          rw [r1, r0]
          exact Ev_b e1 (Ev_t (by simp) (Ev_t rfl (Ev_b v1 (Ev_t rfl (Ev_n rfl)))))
        · simp only [impl_ReadFeature.f]
          rw [hcut, hc]
          exact Ev_b (Ev_n rfl) (Ev_b e2 (Ev_t rfl (Ev_b v2 (Ev_t rfl (Ev_n rfl)))))
  · have h4 : (32 : UInt8) ∈ L.drop (j + 1) := by
      rcases Classical.em ((32 : UInt8) ∈ L.drop (j + 1)) with h | h
      · exact h
      · exact absurd (by rw [spl_none 32 _ h]; rfl) h2
    exact ⟨_, _, _, by simp, sfail (by rw [h1]; simp only [List.length_cons]; omega), fail _ hc (RL_bad _ h4) hdl⟩
end Go.Proofs.YteafahnopgmgoaaDoor.Q
namespace Go.Proofs.YteafahnopgmgoaaDoor.Q
open Go.RowKit Go.Proofs.YteafahnopgmgoaaDoorW.PrintWords Go.Proofs.YteafahnopgmgoaaDoorW.PrintLast Go.Proofs.YteafahnopgmgoaaDoorW.PrintMore
set_option linter.unusedVariables false
theorem law_ReadFeature : laws_FnExactReadFeature.Pure := by
  intro u hu
  have hM : maxLen = 9223372036854775807 := by decide
  refine Ev.rounds (r := true) ?_
  simp only [laws_FnExactReadFeature.f]
  by_cases lu : (u.size : Int) > 1048576
  · exact Ev_t lu (Ev_n rfl)
  refine Ev_f lu ?_
  obtain ⟨r0, r1, r2, E1, e1, e2⟩ := readfeature_ev u (by omega)
  have qr1 := eqInt64S_ev' r1 (by omega)
  obtain ⟨pr1, _, mr1, hr1⟩ := mk_Int64 r1 1 (by omega) (by omega) (by omega)
  have qF := eqF_of r0 qr1
  have mF := mkF_of r0 mr1
  have hF := hdF_of r0 hr1 (by omega)
  repeat' (first | ((first | (with_reducible refine Ev_b e1 ?_) | (with_reducible refine Ev_b e2 ?_) | (with_reducible refine Ev_b qr1 ?_) | (with_reducible refine Ev_b mr1 ?_) | (with_reducible refine Ev_b hr1 ?_) | (with_reducible refine Ev_b qF ?_) | (with_reducible refine Ev_b mF ?_) | (with_reducible refine Ev_b hF ?_)); try dsimp only) | (with_reducible refine Ev_t rfl ?_) | (with_reducible refine Ev_t True.intro ?_) | (refine Ev_f (by omega) ?_) | (refine Ev_t (by omega) ?_) | (refine Ev_f (by simp) ?_) | exact Ev_n rfl | (refine Ev_suc ?_; first | simp only [laws_FnExactReadFeature.j0] | simp only [laws_FnExactReadFeature.j1] | simp only [laws_FnExactReadFeature.j2]))
end Go.Proofs.YteafahnopgmgoaaDoor.Q
namespace Go.Proofs.YteafahnopgmgoaaDoor.Pure
open Go.Proofs.YteafahnopgmgoaaDoor.Q
theorem FnExactReadFeature : laws_FnExactReadFeature.Pure := law_ReadFeature
end Go.Proofs.YteafahnopgmgoaaDoor.Pure
namespace Go.Proofs.YteafahnopgmgoaaDoor.OPN
open Go
theorem wrap_and_shaped {H : Type} {enc : TypeId × Value → H} {a : Assume} {C : Checked} {os : Os} {f : FuncId} {fn : Func} {s : ChangeSpec} {conds : List PathCond} {apart fresh handsOn again : Bool} {X : World → Array Value → Prop}
    (hX : ∀ (w w' : World) (args : Array Value), w.heap = w'.heap → X w args → X w' args)
    (own : ownKnob C.prog.godebug = none) (started : os.Started) (noInit : C.prog.inits.idxOf? f = none) (hfn : C.prog.funcs[f]? = some fn)
    (witness : ∃ (w : World) (tape : Tape) (i : Input), w.os = os ∧ (w.forCall tape i).Shaped C.prog ∧ i.vars = [] ∧ Input.okWide C.prog (w.forCall tape i) .any w.heap.size f i ∧
      ((s.pre enc C.prog fn conds apart (w.forCall tape i).memory i.args ∧ X (w.forCall tape i).memory i.args) ∧ sizedMet enc C.prog fn (OpenSpec.ofChange s) apart (w.forCall tape i).memory i.args) ∧ a.holds C.prog (lone (Frame.enter C.prog f i.args .normal) [] (w.forCall tape i)))
    (contract : ∀ (W : World) (base : Nat) (args : Array Value) (ds gs : List (DataW H)) (before : List MemPlace),
      (∀ (j : Nat) t v, fn.params[j]? = some t → args[j]? = some v → Value.okWide C.prog W .any base t v) →
      DataW.Whole enc C.prog fn.params.toList s.vars apart W args.toList ds gs before →
      conds.all (PathCond.test C.prog ⟨fn.params.toList, ds, s.plain.varTypes C.prog, gs⟩) = true →
      (DataW.weightsEach C.prog (fn.params.toList ++ s.plain.varTypes C.prog) (ds ++ gs)).all (· ≤ reachBytes) = true → X W args → W.ShapedOpen C.prog →
      a.holds C.prog (lone (Frame.enter C.prog f args .normal) [] W) →
      Calls C.prog f args W fun e W' => ∃ v, e = .returned v ∧ s.post enc C.prog fn apart fresh handsOn again W args v W') :
    ReturnsInHanded a C os f .any (fun w args => (s.pre enc C.prog fn conds apart w args ∧ X w args) ∧ sizedMet enc C.prog fn (OpenSpec.ofChange s) apart w args) (s.post enc C.prog fn apart fresh handsOn again) := by
  refine returnsInHanded_of_calls own started noInit witness ?_
  intro w tape i _ hsh _ hok hpre hholds
  obtain ⟨_, _, _, fn', hfn', _, _, _, _, hval⟩ := hok
  have e : fn' = fn := Option.some.inj (hfn'.symm.trans hfn)
  subst e
  obtain ⟨⟨⟨ds, gs, before, hw, hc⟩, hx⟩, hz⟩ := hpre
  have hw' := DataW.Whole.of_heap (w' := w.forCall tape i) (by rfl) hw
  refine (contract (w.forCall tape i) w.heap.size i.args ds gs before hval hw' hc (hz.weights hw) (hX _ _ _ (by rfl) hx) hsh hholds).mono fun e W' ⟨v, he, hp⟩ => ?_
  subst he
  exact ChangeSpec.post_blind hp
end Go.Proofs.YteafahnopgmgoaaDoor.OPN
namespace Go.Proofs.YteafahnopgmgoaaDoor.fnExactReadFeature
open Go.ChangeShapes Go.WideShapes Go.ChangeAt Go.RowKit Go.Proofs.YteafahnopgmgoaaDoor.OPN Go.Proofs.YteafahnopgmgoaaDoor.Q Go.Proofs.YteafahnopgmgoaaDoorW.PrintWords
open Go.ChangeMaps (open_string shut_string)
set_option linter.unusedVariables false
theorem own : ownKnob Tryd.prog.godebug = none := by kernel_rfl
theorem laidOut : laidOutB Tryd.prog = true := by kernel_rfl
theorem tab_of {W : World} (hL : laidMetH Tryd.prog Rows.fnExactReadFeatureRow.laid W) (hsh : W.ShapedOpen Tryd.prog) : Tab_ W := by
  refine ⟨?_, ?_⟩
  · have hl := hL
    rw [MakeChecks.laidMetH_plain _ _ _ (by kernel_rfl)] at hl
    have h1 := (laidMet.tail (laidMet.tail hl))
    have e_ : (Rows.laid_internal_strconv_uint64pow10 : DataW Unit) = Lib.tabData .u64 Lib.pow10Tab := by rfl
    refine Lib.tabIs_of_head (g := 1) (t := 95) (e := 80) (n := 20) (rest := [("unicode/utf8.acceptRanges", Rows.laid_unicode_utf8_acceptRanges), ("unicode/utf8.first", Rows.laid_unicode_utf8_first)]) (by kernel_rfl) (by kernel_rfl) Tryd.underlying95 Tryd.underlying80 (by kernel_rfl) (by kernel_rfl) ?_
    rw [← e_]
    exact h1
  · exact Tryd.laysM219.s1_3 W hsh
set_option maxRecDepth 100000 in
theorem lifted (os : Os) (started : os.Started) (H : Type) (enc : TypeId × Value → H) :
    ReturnsInHanded {} Tryd.checked os 4 .any (fun w args => (Rows.fnExactReadFeatureSpec.pre enc Tryd.prog Tryd.f4 Rows.fnExactReadFeatureRow.domain false w args ∧ laidMetH Tryd.prog Rows.fnExactReadFeatureRow.laid w) ∧ sizedMet enc Tryd.prog Tryd.f4 (OpenSpec.ofChange Rows.fnExactReadFeatureSpec) false w args) (Rows.fnExactReadFeatureSpec.post enc Tryd.prog Tryd.f4 false true false false) := by
  refine wrap_and_shaped (C := Tryd.checked) (X := fun w _ => laidMetH Tryd.prog Rows.fnExactReadFeatureRow.laid w) (fun _ _ _ hh h => h.of_heap hh) own started (by kernel_rfl) Tryd.func4
    (ChangeSpec.witness_shaped (enc := enc) (C := Tryd.checked) (os := os) (X := fun w _ => laidMetH Tryd.prog Rows.fnExactReadFeatureRow.laid w) false (World.laidAll Tryd.prog os Rows.fnExactReadFeatureRow.laid) #[.string ByteArray.empty] 8 (World.laidAll_os _ _ _) (World.shaped_of_ZipB (by kernel_rfl) (by kernel_rfl)) (by kernel_rfl) (by kernel_rfl) (by kernel_rfl) (by rw [MakeChecks.laidMetH_plain _ _ _ (by kernel_rfl)]; exact laidMet_laidAll _ (by kernel_rfl) (by kernel_rfl))) ?_
  intro W base args ds gs before hval0 hW hcnd hsz0 hL hsh _
  have hTab := tab_of hL hsh
  clear hL hsh
  have hval : ∀ (j : Nat) t v, Tryd.f4.params[j]? = some t → args[j]? = some v → Value.okWide Tryd.prog W .any base t v := hval0
  have hW' := hW
  obtain ⟨p, q, hA0, hV, rfl, hfz, hnd⟩ := hW
  have hA : DataW.TrodAll enc Tryd.prog W 0 (fun _ => true) true Tryd.f4.params.toList args.toList ds p := hA0
  rw [Tryd.params4] at hA hval
  obtain ⟨v0, vs0, d0, ds0, p0, q0, hargs, rfl, rfl, h0, r0⟩ := trodAll_cons hA
  obtain ⟨rfl, rfl, rfl⟩ := trodAll_nil r0
  obtain rfl : args = #[v0] := by cases args; simp_all
  obtain ⟨rfl, rfl⟩ := trodVars_none hV
  obtain ⟨x0, rfl, rfl, rfl, w0⟩ := open_string Tryd.underlying9 (hval 0 9 v0 rfl rfl) h0
  clear hA0 hval0 hsz0
  obtain ⟨k, hP⟩ := Pure.FnExactReadFeature x0 w0
  refine (laws_FnExactReadFeature.calls k x0 true W hTab hP).mono fun e W' hh => ?_
  obtain ⟨rfl, bel0⟩ := hh
  have bel : Below W.heap.size W W' := bel0
  exact ⟨_, rfl, _, _, _, [], _, [], hW', trodAll_mk1 (shut_bool Tryd.underlying4 _), (trodAll_cons_mk (shut_string Tryd.underlying9 w0) trodAll_mk0), rfl, bel.frame _, fun h => by cases h⟩
theorem over : Rows.fnExactReadFeatureRow.holds Tryd.pinned (OpenSpec.ofChange Rows.fnExactReadFeatureSpec) :=
  OpenClaim.holds_of_wide 4 Tryd.f4 rfl rfl rfl rfl rfl rfl rfl ⟨rfl, rfl, rfl, rfl, rfl⟩ rfl rfl rfl rfl rfl (by kernel_rfl) Tryd.func4 (by kernel_rfl)
    (of_decide_eq_true (by kernel_rfl)) (by unfold Func.isWrapper; first | (rw [if_pos (by decide +kernel)]; kernel_rfl) | (rw [if_neg (by decide +kernel)]; exact ⟨rfl, rfl⟩))
    (fun os started H enc _ => lifted os started H enc)
theorem proved : Rows.FnExactReadFeatureSaid := over
#print axioms proved
end Go.Proofs.YteafahnopgmgoaaDoor.fnExactReadFeature
namespace Go.Proofs.YteafahnopgmgoaaDoor
open Go
theorem fnExactReadFeature_holds : Rows.FnExactReadFeatureCardSaid :=
  Claim7.holds_tied_plain_at .later [] [.data, .data, .data, .data, .pinned] true (true, "73a15770cf7776252f39f7e00911dec7a53bb3142ca816c6f1ff0db38153a536") false fnExactReadFeature.proved (fun _ h => by cases h) (by kernel_rfl) (fun _ h => by cases h) fnExactReadFeature_row_tie rfl ⟨rfl, rfl⟩ (by kernel_rfl) rfl
    (fun f fn hf hfn => by
      obtain rfl : f = 4 := Option.some.inj ((show Tryd.prog.funcNamed "loop.example/g00956/laws.FnExactReadFeature" = some 4 by kernel_rfl).symm.trans hf) |>.symm
      obtain rfl : fn = Tryd.f4 := (Option.some.inj (Tryd.func4.symm.trans hfn)).symm
      exact ⟨by kernel_rfl, fun j t ht => by
        rw [Tryd.params4] at ht
        have hm : t ∈ [9] := by simpa using Array.mem_of_getElem? ht
        have hall : ([9].all fun u => !Tryd.prog.wantsStandIn u) = true := by kernel_rfl
        exact (show Tryd.prog.wantsStandIn t = false by simpa using List.all_eq_true.1 hall t hm)⟩)
    (by kernel_rfl)
end Go.Proofs.YteafahnopgmgoaaDoor
