/- a byte of a line that changes costs the block of this line alone This text holds the last walks, the plain law and the row. -/
import Derived.HandedShaped
import Derived.Test.YtjebkmfljcanlaaDoorRows
import Derived.Test.YtjebkmfljcanlaaDoorCards
import Derived.Test.YtjebkmfljcanlaaDoorTie
import Derived.Stop.LaidErr
import Derived.LaidMore
import Derived.Lay
import Derived.SevenTiedAt
import Derived.Stop.Joined
import Derived.Lib.LaidTab
import Derived.WalkKit
import Derived.ProofKit
import Derived.OpenShut
import Derived.ShutString
import Derived.ChangeOld
import Derived.Below
import Derived.SizedLaws
import Derived.Carry
import Derived.Test.YtjebkmfljcanlaaDoorKFnSalvagea
import Derived.Test.YtjebkmfljcanlaaDoorKFnSalvageb
import Derived.Test.YtjebkmfljcanlaaDoorKFnSalvagef
import Derived.Test.YtjebkmfljcanlaaDoorKFnSalvagee
import Derived.Test.YtjebkmfljcanlaaDoorKFnSalvagec
set_option linter.unusedVariables false
set_option linter.unusedSimpArgs false
namespace Go.Proofs.YtjebkmfljcanlaaDoor.Q
open Go.RowKit Go.Proofs.YtjebkmfljcanlaaDoorW.PrintWords Go.Proofs.YtjebkmfljcanlaaDoorW.PrintLast Go.Proofs.YtjebkmfljcanlaaDoorW.PrintMore
theorem damaged_x (s : ByteArray) (hs : (s.size : Int) ≤ 1048576) (P : List ByteArray) (hP : lns s = P) (n : Nat) (hn : n + 1 = P.length) (hn0 : 1 ≤ n) (hlast : P[n]'(by omega) = (⟨#[]⟩ : ByteArray)) (bad : Nat → Bool)
  (h : ∀ i (hi : i < n), 1 ≤ i → ∃ q : P4, Ev (fun k => ax_.f k (P[i]'(by omega))) q ∧ (bad i = false ↔ q.2.2.2 = 0)) : Ev (fun k => aV_.f k s) (((List.range' 1 (n - 1)).filter bad).map (fun i => ((i + 1 : Nat) : Int))) := by
 have hl := lns_len s
 have hsp := split_i s hs
 rw [hP] at hl hsp
 have go : ∀ (d i : Nat) (out : List Int), i + d = n → 1 ≤ i → out.length ≤ i → Ev (fun k => aV_.l0 k P (n : Int) out i) (out ++ ((List.range' i d).filter bad).map (fun i => ((i + 1 : Nat) : Int))) := by
  intro d
  induction d with
  | zero =>
   intro i out h1 h2 h3
   refine bb_ ?_
   simp only [aV_.l0]
   rw [rdO_in P n (by omega), hlast]
   exact Ev_f (by omega) (Ev_t (by omega) (Ev_t (by omega) (Ev_t (by rw [Go.ByteArray.toList_eq]) (Ev_n (by simp)))))
  | succ d ih =>
   intro i out h1 h2 h3
   obtain ⟨q, p2, c⟩ := h i (by omega) h2
   have r1 := rdO_in P i (by omega)
   refine bb_ ?_
   simp only [aV_.l0]
   rw [r1, wr64s i (by omega), List.range'_succ, List.filter_cons]
   refine Ev_t (by omega) (Ev_t (by omega) (Ev_t (by omega) (Ev_b p2 ?_)))
   cases hb : bad i with
   | false =>
    exact Ev_t (c.1 hb) (ih (i + 1) out (by omega) (by omega) (by omega))
   | true =>
    have g := ih (i + 1) (out ++ [((i + 1 : Nat) : Int)]) (by omega) (by omega) (by simp; omega)
    rw [List.append_assoc] at g
    exact Ev_f (fun e => by rw [c.2 e] at hb; cases hb) (Ev_t (by omega) g)
 have e : wrap64 ((P.length : Int) - 1) = (n : Int) := by rw [wr64 (by omega) (by omega)]; omega
 simp only [aV_.f]
 refine Ev_b (Ev_c hsp) ?_
 rw [e]
 have g := go (n - 1) 1 [] (by omega) (by omega) (by simp)
 rw [List.nil_append] at g
 exact g
theorem put_end {m : List Blk} {b : Blk} (h : (m ++ [b]).Pairwise lessB) : putB m b = m ++ [b] := by
 have hm : m.Pairwise lessB := (List.pairwise_append.1 h).1
 refine pw_ext _ _ (put_pw hm b) h (fun x => ?_)
 rw [put_mem hm b x, List.mem_append, List.mem_singleton]
 constructor
 ·rintro (rfl | ⟨g, _⟩)
  ·exact .inr rfl
  ·exact .inl g
 ·rintro (g | rfl)
  ·exact .inr ⟨g, (ne_of_less ((List.pairwise_append.1 h).2.2 x g b (List.mem_singleton.2 rfl))).1⟩
  ·exact .inl rfl
theorem Vb_of {x : Blk} (h : oneV x) : Vb x := by
 refine ⟨h.1, fun k hk => ?_⟩
 obtain ⟨b, hb⟩ := validB_ev x h.1
 have e : b = true := Ev_one ⟨2000001, fun k hk => (hb k (by omega)).1⟩ h.2
 have := hb k hk
 rw [e] at this
 exact ⟨this.2, this.1⟩
theorem salvage_x (s : ByteArray) (hs : (s.size : Int) ≤ 1048576) (P : List ByteArray) (hP : lns s = P) (n : Nat) (hn : n + 1 = P.length) (hn0 : 1 ≤ n) (R : List (Option Blk)) (hR : R.length + 1 = n) (hv : okL (R.filterMap id))
  (h : ∀ i (hi : i < R.length), ∃ q : P4, Ev (fun k => ax_.f k (P[i + 1]'(by omega))) q ∧ ((q.2.2.2 ≠ 0 ∧ R[i] = none) ∨ (q.2.2.2 = 0 ∧ R[i] = some (⟨q.1, q.2.1, q.2.2.1⟩ : Blk)))) : Ev (fun k => aO_.f k s) (R.filterMap id) := by
 have hl := lns_len s
 have hsp := split_i s hs
 rw [hP] at hl hsp
 have e : wrap64 ((P.length : Int) - 1) = (n : Int) := by rw [wr64 (by omega) (by omega)]; omega
 have go : ∀ (S T : List (Option Blk)), T ++ S = R → Ev (fun k => aO_.l0 k P (T.filterMap id) ((T.length + 1 : Nat) : Int)) (R.filterMap id) := by
  intro S
  induction S with
  | nil =>
   intro T hT
   rw [List.append_nil] at hT
   subst hT
   refine bb_ ?_
   simp only [aO_.l0]
   rw [e]
   exact Ev_f (by omega) (Ev_n rfl)
  | cons o S ih =>
   intro T hT
   have hlR : R.length = T.length + 1 + S.length := by rw [← hT]; simp; omega
   obtain ⟨q, p2, c⟩ := h T.length (by omega)
   have ho : R[T.length]'(by omega) = o := by subst hT; simp
   rw [ho] at c
   have nx := ih (T ++ [o]) (by simpa using hT)
   rw [show (T ++ [o]).length = T.length + 1 by simp, List.filterMap_append] at nx
   refine bb_ ?_
   simp only [aO_.l0]
   rw [e, rdO_in P (T.length + 1) (by omega), wr64s (T.length + 1) (by omega)]
   refine Ev_t (by omega) (Ev_t (by omega) (Ev_t (by omega) (Ev_b p2 ?_)))
   rcases c with ⟨c1, rfl⟩ | ⟨c1, rfl⟩
   ·rw [show ([none] : List (Option Blk)).filterMap id = [] from rfl, List.append_nil] at nx
    exact Ev_f c1 nx
   ·rw [show ([some (⟨q.1, q.2.1, q.2.2.1⟩ : Blk)] : List (Option Blk)).filterMap id = [(⟨q.1, q.2.1, q.2.2.1⟩ : Blk)] from rfl] at nx
    have hR2 : R.filterMap id = (T.filterMap id ++ [(⟨q.1, q.2.1, q.2.2.1⟩ : Blk)]) ++ S.filterMap id := by rw [← hT]; simp
    rw [hR2] at hv
    obtain ⟨v1, v2, v3⟩ := hv
    have hpw := (List.pairwise_append.1 v2).1
    have hlen : (T.filterMap id ++ [(⟨q.1, q.2.1, q.2.2.1⟩ : Blk)]).length ≤ 32 := by rw [List.length_append] at v1; omega
    have hb : oneV (⟨q.1, q.2.1, q.2.2.1⟩ : Blk) := v3 _ (by simp)
    have hvb : VB (T.filterMap id) := ⟨by rw [List.length_append] at hlen; omega, (List.pairwise_append.1 hpw).1, fun y hy => Vb_of (v3 y (by simp only [List.mem_append]; exact .inl (.inl hy)))⟩
    obtain ⟨_, u2, _⟩ := putV_ev (T.filterMap id) _ hvb (Vb_of hb)
    rw [put_end hpw] at u2
    exact Ev_t c1 (Ev_b (u2 hlen) (Ev_t rfl nx))
 simp only [aO_.f]
 refine Ev_b (Ev_c hsp) ?_
 exact go R [] rfl
theorem r8At_ok (c : List Int) (hc : u8s c) (i n : Int) (hi : 0 ≤ i) (hn : 1 ≤ n) (hn2 : n ≤ 1000) : ∃ t, cg_.f c i n = some t ∧ 0 ≤ t ∧ t < n := by
 unfold cg_.f
 by_cases c1 : n ≤ 1
 rotate_left
 ·rw [if_neg c1]
  by_cases c2 : i ≥ (c.length : Int)
  rotate_left
  ·rw [if_neg c2, if_pos hi, if_pos (by omega), if_neg (by omega)]
   have hv : 0 ≤ rd c i ∧ rd c i < 256 := by
    unfold rd
    have h : i.toNat < c.length := by omega
    rw [List.getD_eq_getElem?_getD, List.getElem?_eq_getElem h]
    exact hc.2 _ (List.getElem_mem h)
   rw [wr64 (by omega) (by omega)]
   exact ⟨_, rfl, Int.tmod_nonneg _ (by omega), Int.tmod_lt_of_pos _ (by omega)⟩
  rw [if_pos c2]; exact ⟨0, rfl, by omega, by omega⟩
 rw [if_pos c1]; exact ⟨0, rfl, by omega, by omega⟩
theorem r8Wide_ok (c : List Int) (hc : u8s c) (n : Int) (hn : 1 ≤ n) : ∃ t, cx_.f c 0 n = some t ∧ 0 ≤ t ∧ t < n := by
 obtain ⟨a, ha, a0, a1⟩ := r8At_ok c hc 0 256 (by omega) (by omega) (by omega)
 obtain ⟨b, hb, b0, b1⟩ := r8At_ok c hc 1 256 (by omega) (by omega) (by omega)
 unfold cx_.f
 have e1 : wrap64 (0 + 1) = 1 := wr64 (by omega) (by omega)
 rw [ha, Option.bind_some, e1, hb, Option.bind_some, if_neg (by omega)]
 have e2 : wrap64 (256 * a) = 256 * a := wr64 (by omega) (by omega)
 have e3 : wrap64 (256 * a + b) = 256 * a + b := wr64 (by omega) (by omega)
 rw [e2, e3]
 exact ⟨_, rfl, Int.tmod_nonneg _ (by omega), Int.tmod_lt_of_pos _ (by omega)⟩
theorem same_self (m : List Blk) (hl : (m.length : Int) ≤ 1048576) : Ev (fun k => bq_.f k m m) true := by
 have go : ∀ (d i : Nat), i + d = m.length → Ev (fun k => bK_.l0 k m m i) true := by
  intro d
  induction d with
  | zero => intro i hi; refine bb_ ?_; simp only [bK_.l0]; exact Ev_f (by omega) (Ev_n rfl)
  | succ d ih =>
   intro i hi
   refine bb_ ?_
   simp only [bK_.l0]
   rw [wr64s i (by omega)]
   exact Ev_t (by omega) (Ev_t (by omega) (Ev_t (by omega) (Ev_f (by simp) (ih (i + 1) (by omega)))))
 simp only [bq_.f]
 refine Ev_b (a := true) ?_ (Ev_n rfl)
 simp only [bK_.f]
 exact Ev_t (by trivial) (go m.length 0 (by omega))
theorem u8s_of {l : List Int} (hl : ¬ (l.length : Int) > 1048576) (hw : ∀ x ∈ l, (Lit.int .u8 x).wf = true) : u8s l := by
 refine ⟨by omega, fun x hx => ?_⟩
 have h := hw x hx
 simp only [Lit.wf, Bool.and_eq_true, decide_eq_true_eq] at h
 have e1 : IntKind.u8.min = 0 := by decide
 have e2 : IntKind.u8.max = 255 := by decide
 omega
theorem xor8 (a : Nat) (b : Nat) (ha : a < 256) (hb : b < 256) (hb0 : b ≠ 0) : ∃ c : Nat, c < 256 ∧ c ≠ a ∧ Go.bits .xor .u8 (a : Int) (b : Int) = (c : Int) := by
 have hx : a % 2 ^ IntKind.u8.bits = a := Nat.mod_eq_of_lt (by show a < 2 ^ 8; omega)
 have hy : b % 2 ^ IntKind.u8.bits = b := Nat.mod_eq_of_lt (by show b < 2 ^ 8; omega)
 have lt := Nat.xor_lt_two_pow (n := 8) (show a < 2 ^ 8 by omega) (show b < 2 ^ 8 by omega)
 refine ⟨a ^^^ b, by omega, fun e => ?_, ?_⟩
 ·apply hb0
  have := congrArg (a ^^^ ·) e
  simpa [← Nat.xor_assoc, Nat.xor_self] using this
 ·have key : IntKind.u8.wrap ((a ^^^ b : Nat) : Int) = ((a ^^^ b : Nat) : Int) := by
   rw [IntKind.wrap_u8]
   omega
  simpa only [bits, BitVec.ofInt_natCast, BitVec.toNat_xor, BitVec.toNat_ofNat, hx, hy] using key
theorem rd_bytes (L : List UInt8) (i : Nat) (h : i < L.length) : rd (bytesOf (Bs L)) (i : Int) = (L[i].toNat : Int) := by
 rw [rd_bytesOf, bt_in L i h]
theorem set_bytes (L : List UInt8) (i : Nat) (c : Nat) (hc : c < 256) : strOfNums ((bytesOf (Bs L)).set i (c : Int)) = Bs (L.set i (UInt8.ofNat c)) := by
 unfold strOfNums bytesOf
 rw [Bs_list, List.map_set, List.map_map]
 congr 2
 have e : (L.map ((fun n : Int => UInt8.ofNat n.toNat) ∘ fun b : UInt8 => (b.toNat : Int))) = L := by
  conv => rhs; rw [← List.map_id L]
  apply List.map_congr_left
  intro x _
  simp
 rw [e, Int.toNat_natCast]
theorem filt_one (j : Nat) : ∀ (d i : Nat), i ≤ j → j < i + d → (List.range' i d).filter (fun x => x == j) = [j]
 | 0, i, h1, h2 => by omega
 | d + 1, i, h1, h2 => by
  rw [List.range'_succ, List.filter_cons]
  by_cases e : i = j
  rotate_left
  ·rw [if_neg (by simpa using e)]
   exact filt_one j d (i + 1) (by omega) (by omega)
  subst e
  rw [if_pos (by simp)]
  have : (List.range' (i + 1) d).filter (fun x => x == i) = [] := by
   rw [List.filter_eq_nil_iff]
   intro x hx e
   have := (List.mem_range'.1 hx)
   obtain ⟨u, _, hu⟩ := this
   have e2 : x = i := by simpa using e
   omega
  rw [this]
theorem fm_set (L : List Blk) : ∀ (j : Nat), j < L.length → ((L.map some).set j none).filterMap id = L.take j ++ L.drop (j + 1) := by
 induction L with
 | nil => intro j hj; simp at hj
 | cons a L ih =>
  intro j hj
  cases j with
  | zero => simp
  | succ j =>
   have := ih j (by simpa using hj)
   simp only [List.map_cons, List.set_cons_succ, List.filterMap_cons, id, List.take_succ_cons, List.drop_succ_cons, List.cons_append]
   rw [this]
theorem law_Salvage : ao_.Pure := by
 intro l0 l1 w0 w1
 have hw0 := w0.2
 have hw1 := w1.2
 suffices hs : Ev (fun k => ao_.f k l0 l1) true from hs.rounds
 simp only [ao_.f]
 by_cases c0 : (l0.length : Int) > 1048576
 ·exact Ev_b (a := true) (Ev_c (by unfold cC_.f; rw [if_pos c0])) (Ev_t rfl (Ev_n rfl))
 by_cases c1 : (l1.length : Int) > 1048576
 ·exact Ev_b (a := true) (Ev_c (by unfold cC_.f; rw [if_neg c0, decide_eq_true c1])) (Ev_t rfl (Ev_n rfl))
 refine Ev_b (a := false) (Ev_c (by unfold cC_.f; rw [if_neg c0, decide_eq_false c1])) (Ev_f (by decide) ?_)
 have u0 := u8s_of c0 hw0
 have u1 := u8s_of c1 hw1
 obtain ⟨m, em, om, lm, _⟩ := blocks_draw l0 u0
 have hone : ∀ y ∈ m, (y.f2.size : Int) ≤ 1048576 ∧ Ev (fun k => ay_.f k [y]) true := om.2.2
 have sv := save_val m om.1 om.ev hone
 have n10 := arc_no10 m hone
 refine Ev_b em (Ev_b sv ?_)
 have hjl : ∀ (ls : List (List UInt8)), (∀ l ∈ ls, l.length ≤ 1000) → (joinL ls).length ≤ ls.length * 1001 := by
  intro ls
  induction ls with
  | nil => intro _; simp [joinL]
  | cons a ls ih =>
   intro h
   have h1 := h a (List.mem_cons_self ..)
   have h2 := ih (fun l hl => h l (List.mem_cons_of_mem _ hl))
   simp only [joinL, List.length_append, List.length_cons]
   omega
 have hll : ∀ l ∈ arcL m, l.length ≤ 1000 := by
  intro l hl
  unfold arcL at hl
  rcases List.mem_cons.1 hl with e | e
  ·rw [e]
   have := Go.Lib.itoa_length_le (m.length : Int) (by omega) (by omega)
   rw [Go.Lib.itoa_nonneg] at this
   unfold hdrL
   simp only [List.length_append, List.length_cons, List.length_nil]
   omega
  ·obtain ⟨x, hx, rfl⟩ := List.mem_map.1 e
   have h1 := restL_len (hone x hx).2 (hone x hx).1
   have h2 := fiveL_len (restL x)
   unfold lineL
   simp only [List.length_append, List.length_cons]
   omega
 have hal : (arcL m).length = m.length + 1 := by simp [arcL]
 have hsz := hjl _ hll
 have hpos : 1 ≤ (joinL (arcL m)).length := by simp [arcL, joinL]; omega
 generalize hO : joinL (arcL m) = O at *
 refine Ev_t (by rw [bp_]; omega) (Ev_s ?_)
 have hbl : (bytesOf (Bs O)).length = O.length := by rw [bytesOf_length, bp_]
 rw [hbl]
 obtain ⟨t, et, t0, t1⟩ := r8Wide_ok l1 u1 (O.length : Int) (by omega)
 obtain ⟨p, rfl⟩ := Int.eq_ofNat_of_zero_le t0
 have hp : p < O.length := by omega
 obtain ⟨v, ev, v0, v1⟩ := r8At_ok l1 u1 2 255 (by omega) (by omega) (by omega)
 refine Ev_b (Ev_c et) (Ev_t (by omega) (Ev_t (by omega) (Ev_b (Ev_c ev) ?_)))
 rw [rd_bytes O p hp, Int.toNat_natCast]
 obtain ⟨x, hx⟩ : ∃ x : Nat, 1 + v = (x : Int) := ⟨(1 + v).toNat, by omega⟩
 have ex : (wrap64 (1 + v)) % 256 = (x : Int) := by rw [wr64 (by omega) (by omega), hx]; omega
 obtain ⟨c, c256, cne, ec⟩ := xor8 O[p].toNat x O[p].toNat_lt (by omega) (by omega)
 rw [ex, ec]
 have fin : Ev (fun k => ao_.l0 k m (Bs O) ((bytesOf (Bs O)).set p (c : Int)) (p : Int) (O[p].toNat : Int) ((cnt10 (O.take p) + 1 : Nat) : Int) (p : Int)) true := by
  have one : ∀ x9 : Int, Ev (fun k => ao_.j1 k m ((bytesOf (Bs O)).set p (c : Int)) x9 true) true := by
   intro x9
   refine bb_ ?_
   simp only [ao_.j1]
   exact Ev_t (by first | exact True.intro | rfl) (Ev_n rfl)
  refine bb_ ?_
  simp only [ao_.l0]
  refine Ev_f (by omega) ?_
  by_cases q0 : (O[p].toNat : Int) = 10
  ·exact Ev_t q0 (one _)
  refine Ev_f q0 (Ev_t (by omega) (Ev_t (by rw [List.length_set, hbl]; omega) ?_))
  have hset : rd ((bytesOf (Bs O)).set p (c : Int)) (p : Int) = (c : Int) := by
   unfold rd
   rw [List.getD_eq_getElem?_getD, Int.toNat_natCast, List.getElem?_set_self (by rw [hbl]; exact hp)]
   rfl
  rw [hset]
  by_cases q1 : (c : Int) = 10
  ·exact Ev_t q1 (one _)
  refine Ev_f q1 ?_
  have hne : O[p] ≠ 10 := fun e => q0 (by rw [e]; rfl)
  have hcn : (UInt8.ofNat c).toNat = c := UInt8.toNat_ofNat_of_lt' c256
  have hcne : UInt8.ofNat c ≠ 10 := by
   intro e
   apply q1
   rw [← hcn, e]
   rfl
  have hcO : UInt8.ofNat c ≠ O[p] := by
   intro e
   apply cne
   rw [← hcn, e]
  have al := at_line (arcL m) p (by rw [hO]; exact hp) n10 (by simp only [hO]; exact hne)
  simp only [hO] at al
  obtain ⟨j, q, hj, hq, g1, g2, g3⟩ := al
  rw [g2]
  by_cases j0 : j = 0
  ·subst j0
   exact one _
  have hb1 : (((j + 1 : Nat) : Int) == 1) = false := by
   rw [beq_eq_false_iff_ne]
   omega
  rw [hb1]
  refine bb_ ?_
  simp only [ao_.j1]
  refine Ev_f (by decide) ?_
  rw [set_bytes O p c c256, g3 (UInt8.ofNat c)]
  obtain ⟨i, rfl⟩ : ∃ i, j = i + 1 := ⟨j - 1, by omega⟩
  have him : i < m.length := by omega
  have egj : (arcL m)[i + 1] = lineL m[i] := by simp [arcL]
  rw [egj] at hq
  have gj : ((arcL m)[i + 1]).set q (UInt8.ofNat c) = (lineL m[i]).set q (UInt8.ofNat c) := by rw [egj]
  have g1' : (lineL m[i])[q] = O[p] := by
   rw [← g1]
   congr 1
   exact egj.symm
  rw [gj]
  generalize hB : (lineL m[i]).set q (UInt8.ofNat c) = B
  have hBn : (10 : UInt8) ∉ B := by
   intro hm
   rw [← hB] at hm
   rcases List.mem_or_eq_of_mem_set hm with e | e
   ·exact line_no10 (hone _ (List.getElem_mem him)).2 (hone _ (List.getElem_mem him)).1 e
   ·exact hcne e.symm
  have hBl : B.length ≤ 1000 := by
   rw [← hB, List.length_set]
   exact hll _ (by unfold arcL; exact List.mem_cons_of_mem _ (List.mem_map_of_mem (List.getElem_mem him)))
  have hset2 : (arcL m).set (i + 1) B = hdrL m.length :: (m.map lineL).set i B := by simp [arcL]
  rw [hset2]
  have n10' : ∀ l ∈ hdrL m.length :: (m.map lineL).set i B, (10 : UInt8) ∉ l := by
   intro l hl
   rcases List.mem_cons.1 hl with e | e
   ·rw [e]; exact hdr_no10 _
   ·rcases List.mem_or_eq_of_mem_set e with e | e
    ·exact n10 l (by unfold arcL; exact List.mem_cons_of_mem _ e)
    ·rw [e]; exact hBn
  have hll' : ∀ l ∈ hdrL m.length :: (m.map lineL).set i B, l.length ≤ 1000 := by
   intro l hl
   rcases List.mem_cons.1 hl with e | e
   ·rw [e]; exact hll _ (by simp [arcL])
   ·rcases List.mem_or_eq_of_mem_set e with e | e
    ·exact hll l (by unfold arcL; exact List.mem_cons_of_mem _ e)
    ·rw [e]; exact hBl
  have hsz' := hjl _ hll'
  have hlen' : (hdrL m.length :: (m.map lineL).set i B).length = m.length + 1 := by simp
  have hP : lns (Bs (joinL (hdrL m.length :: (m.map lineL).set i B))) = (hdrL m.length :: (m.map lineL).set i B ++ [[]]).map Bs := by
   unfold lns
   rw [Bs_list, spl_join _ n10']
  generalize hS : Bs (joinL (hdrL m.length :: (m.map lineL).set i B)) = s at hP
  have hss : (s.size : Int) ≤ 1048576 := by rw [← hS, bp_]; omega
  generalize hPP : (hdrL m.length :: (m.map lineL).set i B ++ [[]]).map Bs = P at hP
  have hPl : P.length = m.length + 2 := by rw [← hPP]; simp
  have hPlast : P[m.length + 1]'(by omega) = (⟨#[]⟩ : ByteArray) := by
   subst hPP
   simp
  have hPi : ∀ (a : Nat) (ha : a < m.length), P[a + 1]'(by omega) = Bs (if a = i then B else lineL m[a]) := by
   intro a ha
   subst hPP
   simp only [List.getElem_map, List.cons_append, List.getElem_cons_succ]
   rw [List.getElem_append_left (by simp; exact ha), List.getElem_set]
   congr 1
   by_cases e : i = a
   rotate_left
   ·rw [if_neg e, if_neg (fun g => e g.symm)]; simp
   subst e; simp
  have good : ∀ (a : Nat) (ha : a < m.length), a ≠ i → Ev (fun k => ax_.f k (P[a + 1]'(by omega))) (m[a].f0, m[a].f1, m[a].f2, 0) := by
   intro a ha hne2
   rw [hPi a ha, if_neg hne2]
   have h1 := parse_ok (hone _ (List.getElem_mem ha)).2 (hone _ (List.getElem_mem ha)).1
   have h2 := hll (lineL m[a]) (by unfold arcL; exact List.mem_cons_of_mem _ (List.mem_map_of_mem (List.getElem_mem ha)))
   obtain ⟨r, r1, r2, _⟩ := parse_ev (Bs (lineL m[a])) (by rw [bp_]; omega)
   rw [Ev_one r1 h1] at r2
   exact r2
  have badl : ∃ e : Int, e ≠ 0 ∧ Ev (fun k => ax_.f k (P[i + 1]'(by omega))) (no4 e) := by
   rw [hPi i him, if_pos rfl]
   obtain ⟨e, e0, h1⟩ := parse_bad (hone _ (List.getElem_mem him)).2 (hone _ (List.getElem_mem him)).1 q hq (UInt8.ofNat c) (by rw [g1']; exact hcO)
   rw [hB] at h1
   obtain ⟨r, r1, r2, _⟩ := parse_ev (Bs B) (by rw [bp_]; omega)
   rw [Ev_one r1 h1] at r2
   exact ⟨e, e0, r2⟩
  obtain ⟨be, be0, hbe⟩ := badl
  have hdl : ∀ a (ha : a < m.length + 1), 1 ≤ a → ∃ q : P4, Ev (fun k => ax_.f k (P[a]'(by omega))) q ∧ ((a == i + 1) = false ↔ q.2.2.2 = 0) := by
   intro a ha ha1
   obtain ⟨b, rfl⟩ : ∃ b, a = b + 1 := ⟨a - 1, by omega⟩
   by_cases e : b = i
   rotate_left
   ·exact ⟨_, good b (by omega) e, by simp [e]⟩
   subst e
   exact ⟨no4 be, hbe, by simp [be0]⟩
  have dam := damaged_x s hss P hP (m.length + 1) (by omega) (by omega) hPlast (fun a => a == i + 1) hdl
  rw [show m.length + 1 - 1 = m.length by omega, filt_one (i + 1) m.length 1 (by omega) (by omega)] at dam
  have om2 : okL (m.take i ++ m.drop (i + 1)) := by
   refine ⟨by have := om.1; rw [List.length_append, List.length_take, List.length_drop]; omega, om.2.1.sublist ?_, fun y hy => om.2.2 y ?_⟩
   ·have := List.eraseIdx_sublist m i
    rwa [List.eraseIdx_eq_take_drop_succ] at this
   ·rcases List.mem_append.1 hy with e | e
    ·exact List.mem_of_mem_take e
    ·exact List.mem_of_mem_drop e
  have hsl : ∀ a (ha : a < ((m.map some).set i none).length), ∃ q : P4, Ev (fun k => ax_.f k (P[a + 1]'(by rw [List.length_set, List.length_map] at ha; omega))) q ∧ ((q.2.2.2 ≠ 0 ∧ ((m.map some).set i none)[a] = none) ∨ (q.2.2.2 = 0 ∧ ((m.map some).set i none)[a] = some (⟨q.1, q.2.1, q.2.2.1⟩ : Blk))) := by
   intro a ha
   have ha' : a < m.length := by simpa using ha
   by_cases e : a = i
   rotate_left
   ·refine ⟨_, good a ha' e, .inr ⟨rfl, ?_⟩⟩
    rw [List.getElem_set, if_neg (fun g => e g.symm), List.getElem_map]
   subst e
   exact ⟨no4 be, hbe, .inl ⟨be0, by simp⟩⟩
  have om3 : okL (((m.map some).set i none).filterMap id) := by rw [fm_set m i him]; exact om2
  have sal := salvage_x s hss P hP (m.length + 1) (by omega) (by omega) ((m.map some).set i none) (by simp) om3 hsl
  rw [fm_set m i him] at sal
  refine Ev_b dam (Ev_b sal ?_)
  have ei : (((i + 1 : Nat) + 1 : Nat) : Int) = ((i + 2 : Nat) : Int) := by omega
  simp only [List.map_cons, List.map_nil]
  have sm : Ev (fun k => bO_.f k [((i + 1 + 1 : Nat) : Int)] [((i + 1 + 1 : Nat) : Int)]) true := by
   generalize ((i + 1 + 1 : Nat) : Int) = z
   have l1 : (([z] : List Int).length : Int) = 1 := rfl
   have wz : wrap64 (0 + 1) = 1 := wr64 (by omega) (by omega)
   simp only [bO_.f]
   refine Ev_t (by trivial) (bb_ ?_)
   simp only [bO_.l0]
   rw [l1, wz]
   refine Ev_t (by omega) (Ev_t (by omega) (Ev_t (by omega) (Ev_t (by trivial) (bb_ ?_))))
   simp only [bO_.l0]
   rw [l1]
   exact Ev_f (by omega) (Ev_n rfl)
  have w1' : wrap64 (((i + 1 + 1 : Nat) : Int) - 2) = (i : Int) := by rw [wr64 (by omega) (by omega)]; omega
  have w2' : wrap64 (((i + 1 + 1 : Nat) : Int) - 1) = ((i + 1 : Nat) : Int) := by rw [wr64 (by omega) (by omega)]; omega
  rw [w1', w2']
  refine Ev_b sm (Ev_t rfl (Ev_s (Ev_t (by omega) (Ev_t (by omega) (Ev_s (Ev_t (by simp; omega) (Ev_s (Ev_t (by omega) (Ev_t (by omega) (Ev_s (Ev_t (by simp; omega) ?_)))))))))))
  rw [Int.toNat_natCast, Int.toNat_natCast, List.nil_append]
  exact Ev_b (same_self _ om2.len) (Ev_n rfl)
 have go : ∀ (d i : Nat), i + d = p → Ev (fun k => ao_.l0 k m (Bs O) ((bytesOf (Bs O)).set p (c : Int)) (p : Int) (O[p].toNat : Int) ((cnt10 (O.take i) + 1 : Nat) : Int) (i : Int)) true := by
  intro d
  induction d with
  | zero =>
   intro i hi
   obtain rfl : i = p := by omega
   exact fin
  | succ d ih =>
   intro i hi
   have hi2 : i < O.length := by omega
   have nx := ih (i + 1) (by omega)
   have hcl : cnt10 (O.take i) ≤ i := by
    unfold cnt10
    refine Nat.le_trans (List.length_filter_le _ _) ?_
    rw [List.length_take]
    omega
   have et2 : O.take (i + 1) = O.take i ++ [O[i]] := (List.take_append_getElem hi2).symm
   rw [et2, cnt10_app] at nx
   refine bb_ ?_
   simp only [ao_.l0]
   rw [bt_in O i hi2, wr64s i (by omega), wr64s (cnt10 (O.take i) + 1) (by omega)]
   refine Ev_t (by omega) (Ev_t (by omega) (Ev_t (by rw [bp_]; omega) ?_))
   by_cases e : O[i] = 10
   rotate_left
   ·have e1 : cnt10 [O[i]] = 0 := cnt10_no (fun g => e (List.mem_singleton.1 g).symm)
    rw [e1] at nx
    refine Ev_f (fun g => e ?_) nx
    exact (u8_eq O[i] 10 (by decide)).1 g
   have e1 : cnt10 [O[i]] = 1 := by rw [e]; rfl
   rw [e1] at nx
   exact Ev_t (by rw [e]; rfl) nx
 have g := go p 0 (by omega)
 exact g
end Go.Proofs.YtjebkmfljcanlaaDoor.Q
namespace Go.Proofs.YtjebkmfljcanlaaDoor.Pure
open Go.Proofs.YtjebkmfljcanlaaDoor.Q
theorem FnSalvage : ao_.Pure := law_Salvage
end Go.Proofs.YtjebkmfljcanlaaDoor.Pure
namespace Go.Proofs.YtjebkmfljcanlaaDoor.OPN
open Go
theorem wrap_and_shaped {H : Type} {enc : TypeId × Value → H} {a : Assume} {C : Checked} {os : Os} {f : FuncId} {fn : Func} {s : ChangeSpec} {conds : List PathCond} {apart fresh handsOn again : Bool} {X : World → Array Value → Prop}
  (hX : ∀ (w w' : World) (args : Array Value), w.heap = w'.heap → X w args → X w' args)
  (own : ownKnob C.prog.godebug = none) (started : os.Started) (noInit : C.prog.inits.idxOf? f = none) (hfn : C.prog.funcs[f]? = some fn)
  (witness : ∃ (w : World) (tape : Tape) (i : Input), w.os = os ∧ (w.forCall tape i).Shaped C.prog ∧ i.vars = [] ∧ Input.okWide C.prog (w.forCall tape i) .any w.heap.size f i ∧
   ((s.pre enc C.prog fn conds apart (w.forCall tape i).memory i.args ∧ X (w.forCall tape i).memory i.args) ∧ sizedMet enc C.prog fn (OpenSpec.ofChange s) apart (w.forCall tape i).memory i.args) ∧ a.holds C.prog (lone (Frame.enter C.prog f i.args .normal) [] (w.forCall tape i)))
  (contract : ∀ (W : World) (base : Nat) (args : Array Value) (ds gs : List (DataW H)) (before : List MemPlace),
   (∀ (j : Nat) t v, fn.params[j]? = some t → args[j]? = some v → Value.okWide C.prog W .any base t v) →
   DataW.Whole enc C.prog fn.params.toList s.vars apart W args.toList ds gs before →
   conds.all (PathCond.test C.prog ⟨fn.params.toList, ds, s.plain.varTypes C.prog, gs⟩) = true →
   (DataW.weightsEach C.prog (fn.params.toList ++ s.plain.varTypes C.prog) (ds ++ gs)).all (· ≤ reachBytes) = true → X W args → W.ShapedOpen C.prog →
   a.holds C.prog (lone (Frame.enter C.prog f args .normal) [] W) →
   Calls C.prog f args W fun e W' => ∃ v, e = .returned v ∧ s.post enc C.prog fn apart fresh handsOn again W args v W') :
  ReturnsInHanded a C os f .any (fun w args => (s.pre enc C.prog fn conds apart w args ∧ X w args) ∧ sizedMet enc C.prog fn (OpenSpec.ofChange s) apart w args) (s.post enc C.prog fn apart fresh handsOn again) := by
 refine returnsInHanded_of_calls own started noInit witness ?_
 intro w tape i _ hsh _ hok hpre hholds
 obtain ⟨_, _, _, fn', hfn', _, _, _, _, hval⟩ := hok
 have e : fn' = fn := Option.some.inj (hfn'.symm.trans hfn)
 subst e
 obtain ⟨⟨⟨ds, gs, before, hw, hc⟩, hx⟩, hz⟩ := hpre
 have hw' := DataW.Whole.of_heap (w' := w.forCall tape i) (by rfl) hw
 refine (contract (w.forCall tape i) w.heap.size i.args ds gs before hval hw' hc (hz.weights hw) (hX _ _ _ (by rfl) hx) hsh hholds).mono fun e W' ⟨v, he, hp⟩ => ?_
 subst he
 exact ChangeSpec.post_blind hp
end Go.Proofs.YtjebkmfljcanlaaDoor.OPN
namespace Go.Proofs.YtjebkmfljcanlaaDoor.fnSalvage
open Go.ChangeShapes Go.WideShapes Go.ChangeAt Go.RowKit Go.Proofs.YtjebkmfljcanlaaDoor.OPN Go.Proofs.YtjebkmfljcanlaaDoor.Q Go.Proofs.YtjebkmfljcanlaaDoorW.PrintWords
open Go.ChangeMaps (open_string shut_string)
theorem own : ownKnob Tryd.prog.godebug = none := by kernel_rfl
theorem laidOut : laidOutB Tryd.prog = true := by kernel_rfl
theorem tab_of {W : World} (hL : laidMetH Tryd.prog Rows.fnSalvageRow.laid W) (hsh : W.ShapedOpen Tryd.prog) : Tab_ W := by
 refine ⟨?_, ?_⟩
 ·have hl := hL
  rw [MakeChecks.laidMetH_plain _ _ _ (by kernel_rfl)] at hl
  have h1 := (laidMet.tail (laidMet.tail hl))
  have e_ : (Rows.laid_internal_strconv_uint64pow10 : DataW Unit) = Lib.tabData .u64 Lib.pow10Tab := by rfl
  refine Lib.tabIs_of_head (g := 3) (t := 132) (e := 79) (n := 20) (rest := [("unicode/utf8.acceptRanges", Rows.laid_unicode_utf8_acceptRanges), ("unicode/utf8.first", Rows.laid_unicode_utf8_first)]) (by kernel_rfl) (by kernel_rfl) Tryd.underlying132 Tryd.underlying79 (by kernel_rfl) (by kernel_rfl) ?_
  rw [← e_]
  exact h1
 ·exact Tryd.laysM219.s1_3 W hsh
set_option maxRecDepth 100000 in
theorem lifted (os : Os) (started : os.Started) (H : Type) (enc : TypeId × Value → H) :
  ReturnsInHanded {} Tryd.checked os 6 .any (fun w args => (Rows.fnSalvageSpec.pre enc Tryd.prog Tryd.f6 Rows.fnSalvageRow.domain false w args ∧ laidMetH Tryd.prog Rows.fnSalvageRow.laid w) ∧ sizedMet enc Tryd.prog Tryd.f6 (OpenSpec.ofChange Rows.fnSalvageSpec) false w args) (Rows.fnSalvageSpec.post enc Tryd.prog Tryd.f6 false true false false) := by
 refine wrap_and_shaped (C := Tryd.checked) (X := fun w _ => laidMetH Tryd.prog Rows.fnSalvageRow.laid w) (fun _ _ _ hh h => h.of_heap hh) own started (by kernel_rfl) Tryd.func6
  (ChangeSpec.witness_shaped (enc := enc) (C := Tryd.checked) (os := os) (X := fun w _ => laidMetH Tryd.prog Rows.fnSalvageRow.laid w) false (World.laidAll Tryd.prog os Rows.fnSalvageRow.laid) #[.slice none 0 0, .slice none 0 0] 8 (World.laidAll_os _ _ _) (World.shaped_of_ZipB (by kernel_rfl) (by kernel_rfl)) (by kernel_rfl) (by kernel_rfl) (by kernel_rfl) (by rw [MakeChecks.laidMetH_plain _ _ _ (by kernel_rfl)]; exact laidMet_laidAll _ (by kernel_rfl) (by kernel_rfl))) ?_
 intro W base args ds gs before hval0 hW hcnd hsz0 hL hsh _
 have hTab := tab_of hL hsh
 clear hL hsh
 have hval : ∀ (j : Nat) t v, Tryd.f6.params[j]? = some t → args[j]? = some v → Value.okWide Tryd.prog W .any base t v := hval0
 have hW' := hW
 obtain ⟨p, q, hA0, hV, rfl, hfz, hnd⟩ := hW
 have hA : DataW.TrodAll enc Tryd.prog W 0 (fun _ => true) true Tryd.f6.params.toList args.toList ds p := hA0
 rw [Tryd.params6] at hA hval
 obtain ⟨v0, vs0, d0, ds0, p0, q0, hargs, rfl, rfl, h0, r0⟩ := trodAll_cons hA
 obtain ⟨v1, vs1, d1, ds1, p1, q1, rfl, rfl, rfl, h1, r1⟩ := trodAll_cons r0
 obtain ⟨rfl, rfl, rfl⟩ := trodAll_nil r1
 obtain rfl : args = #[v0, v1] := by cases args; simp_all
 obtain ⟨rfl, rfl⟩ := trodVars_none hV
 have lt0 : ∀ x ∈ p0, x.block < W.heap.size := by obtain ⟨m, hm⟩ := h0; exact DataW.trod_lt m _ _ _ hm
 have k0 := h0
 obtain ⟨z0, y0, u0, rfl⟩ := okWide_slice Tryd.underlying33 (hval 0 33 v0 rfl rfl)
 obtain ⟨fu0, hf0⟩ := h0
 obtain ⟨x0, ⟨A0, c0, hcs0, hc0, hr0⟩, w0⟩ := ((opn_slice Tryd.underlying33 (by kernel_rfl) (opn_int Tryd.underlying5 (by kernel_rfl))) : Opn _ _ (Kd.slice 5 (Kd.int .u8)) _).get rfl hf0
 obtain ⟨rfl, rfl, rfl⟩ : A0 = z0 ∧ x0.length = y0 ∧ c0 = u0 := (fun (h_ : z0 = A0 ∧ y0 = x0.length ∧ u0 = c0) => ⟨h_.1.symm, h_.2.1.symm, h_.2.2.symm⟩) (by simpa [Value.cells] using hcs0)
 have lt1 : ∀ x ∈ p1, x.block < W.heap.size := by obtain ⟨m, hm⟩ := h1; exact DataW.trod_lt m _ _ _ hm
 have k1 := h1
 obtain ⟨z1, y1, u1, rfl⟩ := okWide_slice Tryd.underlying33 (hval 1 33 v1 rfl rfl)
 obtain ⟨fu1, hf1⟩ := h1
 obtain ⟨x1, ⟨A1, c1, hcs1, hc1, hr1⟩, w1⟩ := ((opn_slice Tryd.underlying33 (by kernel_rfl) (opn_int Tryd.underlying5 (by kernel_rfl))) : Opn _ _ (Kd.slice 5 (Kd.int .u8)) _).get rfl hf1
 obtain ⟨rfl, rfl, rfl⟩ : A1 = z1 ∧ x1.length = y1 ∧ c1 = u1 := (fun (h_ : z1 = A1 ∧ y1 = x1.length ∧ u1 = c1) => ⟨h_.1.symm, h_.2.1.symm, h_.2.2.symm⟩) (by simpa [Value.cells] using hcs1)
 clear hA0 hval0 hsz0
 obtain ⟨k, hP⟩ := Pure.FnSalvage x0 x1 w0 w1
 refine (ao_.calls k A0 c0 x0 A1 c1 x1 true W hr0 hc0 hr1 hc1 hTab hP).mono fun e W' hh => ?_
 obtain ⟨rfl, bel0⟩ := hh
 have bel : Below W.heap.size W W' := bel0
 exact ⟨_, rfl, _, _, _, [], _, [], hW', trodAll_mk1 (shut_bool Tryd.underlying4 _), (trodAll_cons_mk (Below.trod laidOut (by kernel_rfl) (of_decide_eq_true (by kernel_rfl)) k0 bel lt0) (trodAll_cons_mk (Below.trod laidOut (by kernel_rfl) (of_decide_eq_true (by kernel_rfl)) k1 bel lt1) trodAll_mk0)), rfl, bel.frame _, fun h => by cases h⟩
theorem over : Rows.fnSalvageRow.holds Tryd.pinned (OpenSpec.ofChange Rows.fnSalvageSpec) :=
 OpenClaim.holds_of_wide 6 Tryd.f6 rfl rfl rfl rfl rfl rfl rfl ⟨rfl, rfl, rfl, rfl, rfl⟩ rfl rfl rfl rfl rfl (by kernel_rfl) Tryd.func6 (by kernel_rfl)
  (of_decide_eq_true (by kernel_rfl)) (by unfold Func.isWrapper; first | (rw [if_pos (by decide +kernel)]; kernel_rfl) | (rw [if_neg (by decide +kernel)]; exact ⟨rfl, rfl⟩))
  (fun os started H enc _ => lifted os started H enc)
theorem proved : Rows.FnSalvageSaid := over
#print axioms proved
end Go.Proofs.YtjebkmfljcanlaaDoor.fnSalvage
namespace Go.Proofs.YtjebkmfljcanlaaDoor
open Go
theorem fnSalvage_holds : Rows.FnSalvageCardSaid :=
 Claim7.holds_tied_plain_at .later [] [.data, .data, .data, .data, .pinned] true (true, "86b63af80d4f52972ed28c49f965f15c9686d21a29e66773e83e1a2c4e98e785") false fnSalvage.proved (fun _ h => by cases h) (by kernel_rfl) (fun _ h => by cases h) fnSalvage_row_tie rfl ⟨rfl, rfl⟩ (by kernel_rfl) rfl
  (fun f fn hf hfn => by
   obtain rfl : f = 6 := Option.some.inj ((show Tryd.prog.funcNamed "loop.example/g00956/laws.FnSalvage" = some 6 by kernel_rfl).symm.trans hf) |>.symm
   obtain rfl : fn = Tryd.f6 := (Option.some.inj (Tryd.func6.symm.trans hfn)).symm
   exact ⟨by kernel_rfl, fun j t ht => by
    rw [Tryd.params6] at ht
    have hm : t ∈ [33, 33] := by simpa using Array.mem_of_getElem? ht
    have hall : ([33, 33].all fun u => !Tryd.prog.wantsStandIn u) = true := by kernel_rfl
    exact (show Tryd.prog.wantsStandIn t = false by simpa using List.all_eq_true.1 hall t hm)⟩)
  (by kernel_rfl)
end Go.Proofs.YtjebkmfljcanlaaDoor
