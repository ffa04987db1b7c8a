/- Drawn valid blocks and leaves come back whole out of their archive, and one changed byte is seen. This text holds the last walks, the plain law and the row. -/
import Derived.Lib.ItoaLen
import Derived.Lib.SplitLaws
import Derived.Lib.IndexBytes
import Derived.KernelRfl
import Derived.Laws.BitsLemmas
import Derived.HandedShaped
import Derived.Test.YtjebkmfljcanlaaGreatDoorRows
import Derived.Test.YtjebkmfljcanlaaGreatDoorCards
import Derived.Test.YtjebkmfljcanlaaGreatDoorTie
import Derived.Stop.LaidErr
import Derived.LaidMore
import Derived.Lay
import Derived.SevenTiedAt
import Derived.Stop.Joined
import Derived.Lib.LaidTab
import Derived.WalkKit
import Derived.ProofKit
import Derived.OpenShut
import Derived.ShutString
import Derived.ChangeOld
import Derived.Below
import Derived.SizedLaws
import Derived.Carry
import Derived.Test.YtjebkmfljcanlaaGreatDoorKFnFramesa
import Derived.Test.YtjebkmfljcanlaaGreatDoorKFnFramesc
import Derived.Test.YtjebkmfljcanlaaGreatDoorKFnFramese
import Derived.Test.YtjebkmfljcanlaaGreatDoorKFnFramesd
import Derived.Test.YtjebkmfljcanlaaGreatDoorKFnFramesb
set_option linter.unusedVariables false
set_option linter.unusedSimpArgs false
set_option maxHeartbeats 8000000
set_option maxRecDepth 100000
namespace Go.Proofs.YtjebkmfljcanlaaGreatDoor.Q
open Go.RowKit Go.Proofs.YtjebkmfljcanlaaGreatDoorW.PrintWords Go.Proofs.YtjebkmfljcanlaaGreatDoorW.PrintLast Go.Proofs.YtjebkmfljcanlaaGreatDoorW.PrintMore Go.Proofs.Tryz
theorem bt_in (l : List UInt8) (i : Nat) (h : i < l.length) : bt (Bs l) (i : Int) = (l[i].toNat : Int) := by
 unfold bt; have hs : (i : Int).toNat < (Bs l).size := by rw [bP_]; simpa using h
 rw [dif_pos hs]
 simp
 rfl
theorem u8_eq (c : UInt8) (n : Nat) (hn : n < 256) : ((c.toNat : Int) = (n : Int)) ↔ c = UInt8.ofNat n := by
 constructor
 ·intro h
  apply UInt8.toNat.inj
  rw [UInt8.toNat_ofNat_of_lt' hn]
  omega
 ·rintro rfl; rw [UInt8.toNat_ofNat_of_lt' hn]
def isD (c : UInt8) : Prop := 48 ≤ c.toNat ∧ c.toNat ≤ 57
instance (c : UInt8) : Decidable (isD c) := inferInstanceAs (Decidable (_ ∧ _))
def dstep (n : Nat) (c : UInt8) : Nat := n * 10 + (c.toNat - 48)
def dval (n : Nat) (l : List UInt8) : Nat := l.foldl dstep n
theorem dval_nil (n : Nat) : dval n [] = n := rfl
theorem dval_cons (n : Nat) (c : UInt8) (l : List UInt8) : dval n (c :: l) = dval (n * 10 + (c.toNat - 48)) l := by unfold dval; rw [List.foldl_cons, dstep]
theorem dval_snoc (c : UInt8) (l : List UInt8) (n : Nat) : dval n (l ++ [c]) = dval n l * 10 + (c.toNat - 48) := by
 unfold dval; rw [List.foldl_append, List.foldl_cons, List.foldl_nil, dstep]
theorem dval_lt (k : Nat) : ∀ (l : List UInt8) (n : Nat), (∀ c ∈ l, isD c) → n < 10 ^ k → dval n l < 10 ^ (k + l.length)
 | [], n, _, h => by rw [dval_nil, List.length_nil, Nat.add_zero]; exact h
 | a :: l, n, hd, h => by
  have ha := hd a (List.mem_cons_self ..); unfold isD at ha; have := dval_lt (k + 1) l (n * 10 + (a.toNat - 48)) (fun c hc => hd c (List.mem_cons_of_mem _ hc)) (by rw [Nat.pow_succ]; omega); rw [dval_cons, List.length_cons, show k + (l.length + 1) = k + 1 + l.length by omega]; exact this
theorem dig_of (c : UInt8) (h : isD c) : UInt8.ofNat (48 + (c.toNat - 48)) = c := by
 unfold isD at h
 apply UInt8.toNat.inj
 rw [UInt8.toNat_ofNat_of_lt' (show 48 + (c.toNat - 48) < 256 by omega)]
 omega
theorem dec_dval : ∀ (n : Nat) (l : List UInt8), l.length = n → (∀ c ∈ l, isD c) → (∀ c, l.head? = some c → c.toNat ≠ 48) → l ≠ [] → Go.Lib.decDigits (dval 0 l) = l ∧ dval 0 l ≠ 0
 | 0, l, hl, _, _, h0 => absurd (List.eq_nil_of_length_eq_zero hl) h0
 | n + 1, l, hl, hd, hh, h0 => by
  obtain ⟨p, c, rfl⟩ : ∃ p c, l = p ++ [c] := ⟨l.dropLast, l.getLast h0, (List.dropLast_concat_getLast h0).symm⟩; have hc := hd c rav; have hc2 := hc; unfold isD at hc2; have hlp : p.length = n := by simp at hl; omega
  rw [dval_snoc]; by_cases hp : p = []; rotate_left
  ·obtain ⟨h1, h2⟩ := dec_dval n p hlp (fun x hx => hd x (List.mem_append_left _ hx)) (fun x hx => hh x (by
    cases p with
    | nil => exact absurd rfl hp
    | cons a p => exact hx)) hp
   refine ⟨?_, rae⟩; rw [Go.Lib.decDigits, dif_neg rae, show (dval 0 p * 10 + (c.toNat - 48)) / 10 = dval 0 p by omega, show (dval 0 p * 10 + (c.toNat - 48)) % 10 = c.toNat - 48 by omega, h1, dig_of c hc]
  subst hp; have hne := hh c rfl; have e : dval 0 [] * 10 + (c.toNat - 48) = c.toNat - 48 := by rw [dval_nil]; omega
  rw [e, Go.Lib.decDigits, dif_pos rae, dig_of c hc]; exact ⟨rfl, rae⟩
theorem dec_head : ∀ u : Nat, u ≠ 0 → ∀ c, (Go.Lib.decDigits u).head? = some c → c.toNat ≠ 48 := by
 intro u
 induction u using Nat.strongRecOn with
 | _ u ih =>
  intro h c hc; rw [Go.Lib.decDigits] at hc; by_cases h10 : u < 10; rotate_left
  ·rw [dif_neg h10] at hc; refine ih (u / 10) rae rae c ?_
   cases hd : Go.Lib.decDigits (u / 10) with
   | nil =>
    have := Go.Lib.decDigits_length (u / 10); rw [hd] at this; have := Go.Lib.nDigits_pos (u / 10)
    simp at *
    omega
   | cons a r => rw [hd] at hc; simpa using hc
  rw [dif_pos h10] at hc; have : UInt8.ofNat (48 + u) = c := by simpa using hc
  rw [← this, UInt8.toNat_ofNat_of_lt' (show 48 + u < 256 by omega)]
  omega
theorem dec_zero : Go.Lib.decDigits 0 = [48] := by rw [Go.Lib.decDigits, dif_pos rah]; rfl
def rdv (neg : Bool) (l : List UInt8) : Int × Bool :=
 if 1 ≤ l.length ∧ l.length ≤ 18 ∧ (∀ c ∈ l, isD c) ∧ (l.head? = some 48 → neg = false ∧ l.length = 1) then (if neg then -(dval 0 l : Int) else (dval 0 l : Int), true) else (0, false)
def rdl : List UInt8 → Int × Bool
 | c :: l => if c = 45 then rdv true l else rdv false (c :: l)
 | [] => rdv false []
def rdec (s : ByteArray) : Int × Bool := rdl s.data.toList
theorem pow18 : (10 : Nat) ^ 18 = 1000000000000000000 := by decide
theorem its_eq (n : Int) (l : List UInt8) : ((its n).toList = (Bs l).toList) ↔ Go.Lib.itoa n = l := by
 unfold its; rw [ByteArray.toList_eq, ByteArray.toList_eq, ck_, ck_]
theorem itoa_pos (u : Nat) : Go.Lib.itoa (u : Int) = Go.Lib.decDigits u := Go.Lib.itoa_nonneg u
theorem impl_digits (s l : List UInt8) (hl : 1 ≤ l.length ∧ l.length ≤ 18) (neg : Bool) (hs : s = if neg then 45 :: l else l) : Ev (fun k => ah_.l0 k (Bs s) (Bs l) 0 0) (rdv neg l) := by
 have hsz : (((Bs l).size : Int) < ((Bs s).size : Int)) ↔ neg = true := by
  rw [bP_, bP_, hs]; cases neg
  ·simp
  ·simp only [if_true, List.length_cons]; exact ⟨fun _ => trivial, fun _ => by omega⟩
 have go : ∀ (q p : List UInt8), l = p ++ q → (∀ c ∈ p, isD c) → Ev (fun k => ah_.l0 k (Bs s) (Bs l) ((dval 0 p : Nat) : Int) (p.length : Int)) (rdv neg l) := by
  intro q
  induction q with
  | nil =>
   intro p hp hd; rw [List.append_nil] at hp; subst hp; have hv : dval 0 l < 10 ^ (0 + l.length) := dval_lt 0 l 0 hd rah; have hv2 : dval 0 l < 1000000000000000000 := Nat.lt_of_lt_of_le hv (by rw [← pow18]; exact Nat.pow_le_pow_right rah rae); refine aO_ ?_; simp only [ah_.l0]; refine Ev_f ra3 ?_; have h0 : l ≠ [] := fun h => by rw [h] at hl; simp at hl
   cases neg with
   | true =>
    refine Ev_t (hsz.2 rfl) ?_; rw [wr64 (x := -((dval 0 l : Nat) : Int)) rae rae]; refine Ev_b (Ev_c (dd_ _ rae rae)) ?_; have hs' : s = 45 :: l := hs; by_cases hz : l.head? = some 48; rotate_left
    ·have hd2 := dec_dval l.length l rfl hd (fun c hc e => hz (by rw [hc]; congr 1; exact UInt8.toNat.inj (by rw [e]; rfl))) h0
     have : (its (-((dval 0 l : Nat) : Int))).toList = (Bs s).toList := by
      rw [its_eq, hs', Go.Lib.itoa_neg _ rae, hd2.1]
     refine Ev_t this (Ev_n ?_); unfold rdv; rw [if_pos ⟨hl.1, hl.2, hd, fun h => absurd h hz⟩]; rfl
    have : ¬ (its (-((dval 0 l : Nat) : Int))).toList = (Bs s).toList := by
     rw [its_eq, hs']; intro e; by_cases hv0 : dval 0 l = 0; rotate_left
     ·rw [Go.Lib.itoa_neg _ rae] at e; have e2 := List.cons.inj e; have := dec_head _ hv0 48 (by rw [e2.2]; exact hz); exact this rfl
     rw [hv0] at e; have : Go.Lib.itoa 0 = [48] := (itoa_pos 0).trans dec_zero; rw [show (-((0 : Nat) : Int)) = 0 by rfl, this] at e; cases e
    refine Ev_f this (Ev_n ?_); unfold rdv; rw [if_neg (fun h => by have := (h.2.2.2 hz).1; cases this)]
   | false =>
    refine Ev_f (fun h => by have := hsz.1 h; cases this) ?_; refine Ev_b (Ev_c (dd_ _ rae rae)) ?_; have hs' : s = l := hs; by_cases hz : l.head? = some 48; rotate_left
    ·have hd2 := dec_dval l.length l rfl hd (fun c hc e => hz (by rw [hc]; congr 1; exact UInt8.toNat.inj (by rw [e]; rfl))) h0
     have : (its ((dval 0 l : Nat) : Int)).toList = (Bs s).toList := by
      rw [its_eq, hs', itoa_pos, hd2.1]
     refine Ev_t this (Ev_n ?_); unfold rdv; rw [if_pos ⟨hl.1, hl.2, hd, fun h => absurd h hz⟩]; rfl
    by_cases h1 : l.length = 1; rotate_left
    ·have : ¬ (its ((dval 0 l : Nat) : Int)).toList = (Bs s).toList := by
      rw [its_eq, hs', itoa_pos]; intro e; by_cases hv0 : dval 0 l = 0; rotate_left
      ·have := dec_head _ hv0 48 (by rw [e]; exact hz); exact this rfl
      rw [hv0, dec_zero] at e; rw [← e] at h1; exact h1 rfl
     refine Ev_f this (Ev_n ?_); unfold rdv; rw [if_neg (fun h => h1 (h.2.2.2 hz).2)]
    have hl1 : l = [48] := by
     cases l with
     | nil => simp at h1
     | cons a r =>
      have : r = [] := by simpa using h1
      subst this; have : a = 48 := by simpa using hz
      rw [this]
    have : (its ((dval 0 l : Nat) : Int)).toList = (Bs s).toList := by
     rw [its_eq, hs', itoa_pos, hl1]; exact dec_zero
    refine Ev_t this (Ev_n ?_); unfold rdv; rw [if_pos ⟨hl.1, hl.2, hd, fun _ => ⟨rfl, h1⟩⟩]; rfl
  | cons c q ih =>
   intro p hp hd; have hlen : p.length < l.length := by rw [hp]; simp
   have hc : bt (Bs l) (p.length : Int) = (c.toNat : Int) := by
    rw [bt_in l p.length hlen]
    congr 2
    simp [hp]
   have hv : dval 0 p < 10 ^ (0 + p.length) := dval_lt 0 p 0 hd rah; have hv2 : dval 0 p < 100000000000000000 := Nat.lt_of_lt_of_le hv (by rw [show (100000000000000000 : Nat) = 10 ^ 17 by decide]; exact Nat.pow_le_pow_right rah rae)
   have hnd : ¬ isD c → rdv neg l = (0, false) := fun h => by
    unfold rdv; rw [if_neg (fun h2 => h (h2.2.2.1 c (by rw [hp]; simp)))]
   refine aO_ ?_; simp only [ah_.l0]; rw [hc]; refine Ev_t ra3 (Ev_t rae ?_); by_cases h1 : c.toNat < 48
   ·exact Ev_t rae (Ev_n (hnd (by unfold isD; omega)).symm)
   refine Ev_f rae ?_; by_cases h2 : 57 < c.toNat
   ·exact Ev_t rae (Ev_n (hnd (by unfold isD; omega)).symm)
   refine Ev_f rae ?_
   have := ih (p ++ [c]) (by rw [hp]; simp) (fun x hx => by
    rcases List.mem_append.1 hx with h | h
    ·exact hd x h
    ·have : x = c := by simpa using h
     subst this; unfold isD
     omega)
   rw [dval_snoc] at this; rw [wr64 (x := ((dval 0 p : Nat) : Int) * 10) rae rae, wr64s p.length rae, wr64 (x := ((dval 0 p : Nat) : Int) * 10 + _) rae rae, show ((dval 0 p : Nat) : Int) * 10 + ((c.toNat : Int) - 48) % 256 = ((dval 0 p * 10 + (c.toNat - 48) : Nat) : Int) by omega]
   simpa using this
 exact go l [] rfl (fun _ h => by cases h)
theorem prefix_f (s : List UInt8) : strings_HasPrefix.f (Bs s) (⟨#[45]⟩ : ByteArray) = some (decide (s.head? = some 45)) := by
 unfold strings_HasPrefix.f stringslite_HasPrefix.f; have h1 : (⟨#[45]⟩ : ByteArray).size = 1 := rfl; rw [h1, bP_]
 cases s with
 | nil => rw [if_neg rav]; rfl
 | cons c r =>
  rw [List.length_cons, if_pos rae, if_pos rae, if_pos rae]
  have e : ((Bs (c :: r)).extract 0 (((1 : Nat) : Int)).toNat).toList = [c] := by
   rw [ByteArray.toList_eq, Go.Lib.extract_from_zero]
   simp
  have e2 : (⟨#[45]⟩ : ByteArray).toList = [45] := by rw [ByteArray.toList_eq]
  rw [e, e2]; simp only [ob_, Option.some.injEq, List.head?_cons]; by_cases hc : c = 45; rotate_left
  ·simp [hc]
  subst hc; rfl
theorem dr_ (s : ByteArray) : Ev (fun k => ah_.f k s) (rdec s) := by
 rw [← co_ s]; obtain ⟨l, hl⟩ : ∃ l, l = s.data.toList := ⟨_, rfl⟩; rw [← hl]
 have core : ∀ (neg : Bool) (d : List UInt8), (l = if neg then 45 :: d else d) → Ev (fun k => ah_.j0 k (Bs l) (Bs d)) (rdv neg d) := by
  intro neg d hd
  have bad : ¬ (1 ≤ d.length ∧ d.length ≤ 18) → rdv neg d = (0, false) := fun h => by
   unfold rdv; rw [if_neg (fun h2 => h ⟨h2.1, h2.2.1⟩)]
  refine aO_ ?_; simp only [ah_.j0]; by_cases h1 : ((Bs d).size : Int) < 1; rotate_left
  ·refine Ev_f h1 (aO_ ?_); simp only [ah_.j1]; rw [bP_] at h1; by_cases h2 : 18 < d.length; rotate_left
   ·exact Ev_f (by rw [bP_]; simp; omega) (impl_digits l d ⟨rae, rae⟩ neg hd)
   exact Ev_t (by rw [bP_]; simp; omega) (Ev_n (bad rae).symm)
  refine Ev_t h1 (aO_ ?_); simp only [ah_.j1]; rw [bP_] at h1; exact Ev_t rav (Ev_n (bad rae).symm)
 simp only [ah_.f]; rw [prefix_f]; rw [show rdec (Bs l) = rdl l by unfold rdec; rw [ck_]]; refine Ev_s ?_
 cases l with
 | nil => exact Ev_f rav (core false [] rfl)
 | cons c r =>
  by_cases hc : c = 45; rotate_left
  ·rw [rdl, if_neg hc]; exact Ev_f (by simpa using hc) (core false (c :: r) rfl)
  subst hc; refine Ev_t rav (Ev_t (by rw [bP_, List.length_cons]; omega) ?_); rw [rdl, if_pos rfl]
  have : (Bs (45 :: r)).extract 1 (Bs (45 :: r)).size = Bs r := by
   rw [← co_ ((Bs (45 :: r)).extract 1 (Bs (45 :: r)).size), Go.Lib.extract_to_end]
   simp
  rw [this]; exact core true r rfl
def spl (c : UInt8) : List UInt8 → List (List UInt8)
 | [] => [[]]
 | b :: l => if b = c then [] :: spl c l else match spl c l with
  | h :: t => (b :: h) :: t
  | [] => [[b]]
theorem spl_ne (c : UInt8) : ∀ l, spl c l ≠ []
 | [] => by simp [spl]
 | b :: l => by
  rw [spl]
  split
  ·simp
  ·split <;> simp
theorem spl_len (c : UInt8) : ∀ l, (spl c l).length ≤ l.length + 1
 | [] => by simp [spl]
 | b :: l => by
  have := spl_len c l; rw [spl]
  split
  ·simp only [List.length_cons]; omega
  ·split
   ·rename_i h t e; rw [e] at this; simp only [List.length_cons] at this ⊢
    omega
   ·simp
theorem splitK_eq (c : UInt8) : ∀ s : List UInt8, Go.Lib.splitK [c] 0 (Go.Lib.count s [c]) s = spl c s
 | [] => by
  rw [Go.Lib.count_miss (by simp [Go.Lib.index])]; rfl
 | b :: l => by
  have ih := splitK_eq c l; by_cases h : b = c; rotate_left
  ·rw [Go.Lib.count_cons_ne b c l h]; have hp : ([c] : List UInt8).isPrefixOf (b :: l) = false := by simp [List.isPrefixOf, Ne.symm h]
   have hix : Go.Lib.index (b :: l) [c] = if Go.Lib.index l [c] == -1 then -1 else Go.Lib.index l [c] + 1 := by rw [Go.Lib.index, hp]; simp
   rw [spl, if_neg h]; by_cases hm : Go.Lib.index l [c] = -1; rotate_left
   ·have hge := Go.Lib.index_ge l [c]; obtain ⟨j, hj⟩ : ∃ j : Nat, Go.Lib.index l [c] = j := ⟨(Go.Lib.index l [c]).toNat, rae⟩; have hk : ∃ k, Go.Lib.count l [c] = k + 1 := ⟨Go.Lib.count (l.drop (j + 1)) [c], by rw [Go.Lib.count_hit rav hj]; simp; omega⟩; obtain ⟨k, hk⟩ := hk; rw [hk] at ih ⊢; have hne : ¬ (Go.Lib.index l [c] == -1) = true := fun e => hm (beq_iff_eq.1 e); have hix2 : Go.Lib.index (b :: l) [c] = ((j + 1 : Nat) : Int) := by rw [hix, if_neg hne, hj]; omega
    have hne2 : ¬ (Go.Lib.index (b :: l) [c] == -1) = true := fun e => by have := beq_iff_eq.1 e; omega
    rw [Go.Lib.splitK, if_neg hne, hj] at ih; rw [Go.Lib.splitK, if_neg hne2, hix2, ← ih]
    simp
   rw [Go.Lib.count_miss hm] at ih ⊢; have e : spl c l = [l] := ih.symm; rw [e]; rfl
  subst h; rw [Go.Lib.count_cons_eq, Nat.add_comm, spl, if_pos rfl, ← ih]; have hix : Go.Lib.index (b :: l) [b] = 0 := by rw [Go.Lib.index]; simp [List.isPrefixOf]
  rw [Go.Lib.splitK, hix]; rfl
theorem split_f (s : ByteArray) (hs : (s.size : Int) ≤ 1048576) (c : UInt8) : strings_Split.f s (Bs [c]) = some ((spl c s.data.toList).map Bs) := by
 unfold strings_Split.f; rw [if_pos ⟨rae, by rw [bP_]; simp⟩]
 congr 1
 have h := Go.Lib.splitB_data (Bs [c]) 0 (Go.Lib.countB s (Bs [c])) s; have e : (Bs [c]).data.toList = [c] := ck_ _; unfold Go.Lib.countB at h; rw [e, splitK_eq] at h; rw [← h, List.map_map]; unfold Go.Lib.countB; rw [e]
 conv => lhs; rw [← List.map_id (Go.Lib.splitB (Bs [c]) 0 (Go.Lib.count s.data.toList [c]) s)]
 apply List.map_congr_left
 intro x _; exact (co_ x).symm
instance (x : Int) : Decidable (nmOk x) := inferInstanceAs (Decidable (_ ∧ _))
theorem rdO_in (l : List ByteArray) (i : Nat) (h : i < l.length) : rdOf be_ l (i : Int) = l[i] := by unfold rdOf; exact getD_in l _ i h
theorem bits16 (op : BinOp) (hop : op = .xor ∨ op = .and) (a b : Int) (ha : 0 ≤ a) (ha2 : a < 131072) (hb : 0 ≤ b) (hb2 : b < 65536) (h : op = .xor → a < 65536) : 0 ≤ Go.bits op .i64 a b ∧ Go.bits op .i64 a b < 65536 := by
 obtain ⟨x, rfl⟩ := Int.eq_ofNat_of_zero_le ha; obtain ⟨y, rfl⟩ := Int.eq_ofNat_of_zero_le hb; have hx : x % 2 ^ IntKind.i64.bits = x := Nat.mod_eq_of_lt (by show x < 2 ^ 64; omega); have hy : y % 2 ^ IntKind.i64.bits = y := Nat.mod_eq_of_lt (by show y < 2 ^ 64; omega)
 have key : ∀ n : Nat, n < 65536 → 0 ≤ IntKind.i64.wrap (n : Int) ∧ IntKind.i64.wrap (n : Int) < 65536 := fun n hn => by
  rw [IntKind.wrap_i64]
  omega
 rcases hop with rfl | rfl
 ·have hx2 : x < 2 ^ 16 := by have := h rfl; omega
  have := Nat.xor_lt_two_pow (n := 16) hx2 (show y < 2 ^ 16 by omega); have := key _ this
  simpa only [bits, BitVec.ofInt_natCast, BitVec.toNat_xor, BitVec.toNat_ofNat, hx, hy] using this
 ·have := Nat.and_lt_two_pow x (show y < 2 ^ 16 by omega); have := key _ this
  simpa only [bits, BitVec.ofInt_natCast, BitVec.toNat_and, BitVec.toNat_ofNat, hx, hy] using this
theorem bt_256 (x : ByteArray) (i : Int) : 0 ≤ bt x i ∧ bt x i < 256 := by
 unfold bt
 split
 ·rename_i h; have := UInt8.toNat_lt (x[i.toNat]'h)
  omega
 ·omega
theorem crc_ev (x : ByteArray) (hx : (x.size : Int) ≤ 1048576) : ∃ r : Int, 0 ≤ r ∧ r ≤ 65535 ∧ Ev (fun k => aV_.f k x 65535) r ∧ Ev (fun k => bw_.f k x 65535) r := by
 have inner : ∀ (i : Nat), (i : Int) + 1 ≤ 1048577 → (∀ c : Int, 0 ≤ c → c ≤ 65535 → ∃ r : Int, 0 ≤ r ∧ r ≤ 65535 ∧ Ev (fun k => aV_.l0 k x c ((i + 1 : Nat) : Int)) r ∧ Ev (fun k => bw_.l0 k x c ((i + 1 : Nat) : Int)) r) → ∀ (d j : Nat), j + d = 8 → ∀ c : Int, 0 ≤ c → c ≤ 65535 → ∃ r : Int, 0 ≤ r ∧ r ≤ 65535 ∧ Ev (fun k => aV_.l1 k x c i j) r ∧ Ev (fun k => bw_.l1 k x c i j) r := by
  intro i hi nx d
  induction d with
  | zero =>
   intro j hj c c0 c1; obtain ⟨r, r0, r1, r2, r3⟩ := nx c c0 c1; refine ⟨r, r0, r1, aO_ ?_, aO_ ?_⟩
   ·simp only [aV_.l1]; rw [wr64s i rae]; exact Ev_f rae r2
   ·simp only [bw_.l1]; rw [wr64s i rae]; exact Ev_f rae r3
  | succ d ih =>
   intro j hj c c0 c1; have e2 : wrap64 (c * 2) = c * 2 := wr64 rae rae; by_cases h : c * 2 > 65535; rotate_left
   ·obtain ⟨r, r0, r1, r2, r3⟩ := ih (j + 1) rae (c * 2) rae rae; refine ⟨r, r0, r1, aO_ ?_, aO_ ?_⟩
    ·simp only [aV_.l1]; rw [e2, wr64s j rae]; exact Ev_t rae (Ev_f h r2)
    ·simp only [bw_.l1]; rw [e2, wr64s j rae]; exact Ev_t rae (Ev_f h r3)
   have b1 := bits16 .and (.inr rfl) (c * 2) 65535 rae rae rae rae (fun q => by cases q); have b2 := bits16 .xor (.inl rfl) (Go.bits .and .i64 (c * 2) 65535) 4129 b1.1 rae rae rae (fun _ => b1.2); obtain ⟨r, r0, r1, r2, r3⟩ := ih (j + 1) rae _ b2.1 rae; refine ⟨r, r0, r1, aO_ ?_, aO_ ?_⟩
   ·simp only [aV_.l1]; rw [e2, wr64s j rae]; exact Ev_t rae (Ev_t h r2)
   ·simp only [bw_.l1]; rw [e2, wr64s j rae]; exact Ev_t rae (Ev_t h r3)
 have outer : ∀ (d i : Nat), i + d = x.size → ∀ c : Int, 0 ≤ c → c ≤ 65535 → ∃ r : Int, 0 ≤ r ∧ r ≤ 65535 ∧ Ev (fun k => aV_.l0 k x c i) r ∧ Ev (fun k => bw_.l0 k x c i) r := by
  intro d
  induction d with
  | zero =>
   intro i hi c c0 c1; refine ⟨c, c0, c1, aO_ ?_, aO_ ?_⟩
   ·simp only [aV_.l0]; exact Ev_f rae (Ev_n rfl)
   ·simp only [bw_.l0]; exact Ev_f rae (Ev_n rfl)
  | succ d ih =>
   intro i hi c c0 c1; have hb := bt_256 x i; have e1 : wrap64 (bt x i) = bt x i := wr64 rae rae; have e2 : wrap64 (bt x i * 256) = bt x i * 256 := wr64 rae rae; have b2 := bits16 .xor (.inl rfl) c (bt x i * 256) c0 rae rae rae (fun _ => by omega); obtain ⟨r, r0, r1, r2, r3⟩ := inner i rae (fun c q0 q1 => ih (i + 1) rae c q0 q1) 8 0 rae _ b2.1 rae; refine ⟨r, r0, r1, aO_ ?_, aO_ ?_⟩
   ·simp only [aV_.l0]; rw [e1, e2]; exact Ev_t rae (Ev_t rae r2)
   ·simp only [bw_.l0]; rw [e1, e2]; exact Ev_t rae (Ev_t rae r3)
 obtain ⟨r, r0, r1, r2, r3⟩ := outer x.size 0 rae 65535 rae rae; refine ⟨r, r0, r1, ?_, ?_⟩
 ·simp only [aV_.f]; exact r2
 ·simp only [bw_.f]; have : as_.f 65535 0 65535 = some true := by decide
  exact Ev_b (Ev_c this) (Ev_t rfl r3)
def five (n : Int) : ByteArray := Bs (List.replicate (5 - (Go.Lib.itoa n).length) 48 ++ Go.Lib.itoa n)
theorem itoa5 (n : Int) (h0 : 0 ≤ n) (h1 : n ≤ 65535) : (Go.Lib.itoa n).length ≤ 5 := by
 obtain ⟨u, rfl⟩ := Int.eq_ofNat_of_zero_le h0; have : Go.Lib.itoa (u : Int) = Go.Lib.decDigits u := Go.Lib.itoa_nonneg u; rw [this]
 have key : ∀ (k u : Nat), u < 10 ^ k → 1 ≤ k → (Go.Lib.decDigits u).length ≤ k := by
  intro k
  induction k with
  | zero => intro u h hk; omega
  | succ k ih =>
   intro u h hk; rw [Go.Lib.decDigits]
   split
   ·simp
   ·rename_i hu
    have h2 : 1 ≤ k := by
     rcases Nat.eq_zero_or_pos k with rfl | h
     ·simp at h; omega
     ·exact h
    have := ih (u / 10) (by rw [Nat.pow_succ] at h; omega) h2
    simp
    omega
 exact key 5 u rae rae
theorem five_spec (n : Int) (h0 : 0 ≤ n) (h1 : n ≤ 65535) : Ev (fun k => bG_.f k n) (five n) := by
 have h5 := itoa5 n h0 h1
 have go : ∀ (d m : Nat), m + d = 5 - (Go.Lib.itoa n).length → Ev (fun k => bG_.l0 k (Bs (List.replicate m 48 ++ Go.Lib.itoa n))) (five n) := by
  intro d
  induction d with
  | zero =>
   intro m h; refine aO_ ?_; simp only [bG_.l0]; refine Ev_f ?_ (Ev_n (by unfold five; rw [show m = 5 - (Go.Lib.itoa n).length by omega])); rw [bP_]
   simp
   omega
  | succ d ih =>
   intro m h; refine aO_ ?_; simp only [bG_.l0]; have hs : (Bs (List.replicate m 48 ++ Go.Lib.itoa n)).size = m + (Go.Lib.itoa n).length := by rw [bP_]; simp
   have e : (⟨#[48]⟩ : ByteArray) ++ Bs (List.replicate m 48 ++ Go.Lib.itoa n) = Bs (List.replicate (m + 1) 48 ++ Go.Lib.itoa n) := by
    have : (⟨#[48]⟩ : ByteArray) = Bs [48] := rfl; rw [this, cy_, List.replicate_succ]; rfl
   rw [hs, e]; exact Ev_t rae (Ev_t rae (ih (m + 1) rae))
 simp only [bG_.f]; refine Ev_b (dec_ev n rae rae) ?_; have := go _ 0 (Nat.zero_add _)
 simpa [its] using this
theorem five_impl (x : ByteArray) (n : Int) (h0 : 0 ≤ n) (h1 : n ≤ 65535) (h : Ev (fun k => bw_.f k x 65535) n) : Ev (fun k => bM_.f k x) (five n) := by
 have h5 := itoa5 n h0 h1; have hs : (its n).size = (Go.Lib.itoa n).length := by unfold its; rw [bP_]
 have hz : (⟨#[48, 48, 48, 48, 48]⟩ : ByteArray) = Bs [48, 48, 48, 48, 48] := rfl; simp only [bM_.f]; refine Ev_b h (Ev_b (Ev_c (dd_ n rae rae)) ?_); rw [hs, Int.toNat_natCast]
 have e : (⟨#[48, 48, 48, 48, 48]⟩ : ByteArray).extract (Go.Lib.itoa n).length (⟨#[48, 48, 48, 48, 48]⟩ : ByteArray).size = Bs (List.replicate (5 - (Go.Lib.itoa n).length) 48) := by
  rw [hz, ← co_ ((Bs [48, 48, 48, 48, 48]).extract _ _), Go.Lib.extract_data, ck_, bP_]
  congr 1
  generalize (Go.Lib.itoa n).length = m at h5; have : m = 0 ∨ m = 1 ∨ m = 2 ∨ m = 3 ∨ m = 4 ∨ m = 5 := by omega
  rcases this with rfl | rfl | rfl | rfl | rfl | rfl <;> rfl
 rw [e]; refine Ev_t rae (Ev_t rae (Ev_t ?_ (Ev_n ?_)))
 ·rw [bP_]; simp; omega
 ·unfold five its; rw [cy_]
theorem five_len (n : Int) (h0 : 0 ≤ n) (h1 : n ≤ 65535) : (five n).size = 5 := by
 have h5 := itoa5 n h0 h1; unfold five; rw [bP_]
 simp
 omega
theorem toList_len (x : ByteArray) : x.toList.length = x.size := by
 rw [Go.ByteArray.toList_eq x, Array.length_toList]; rfl
theorem name_round (k : Nat) (x : ByteArray) (i : Int) : aW_.l0 k x i = al_.l0 k x i := by
 induction k generalizing i with
 | zero => rfl
 | succ k ih =>
  simp only [aW_.l0, al_.l0, ih, cq_.f, do_.f]; by_cases h1 : i < (x.size : Int); rotate_left
  ·rw [if_neg h1, if_neg h1]
  rw [if_pos h1, if_pos h1]; by_cases h2 : 0 ≤ i; rotate_left
  ·rw [if_neg h2, if_neg h2]
  rw [if_pos h2, if_pos h2]; generalize bt x i = c; by_cases h3 : c < 97; rotate_left
  ·rw [if_neg h3, if_pos (show c ≥ 97 by omega)]; by_cases h4 : c > 122; rotate_left
   ·rw [if_neg h4]; simp [show c ≤ 122 by omega]
   simp [h4, show ¬ c < 48 by omega, show c > 57 by omega, show ¬ c ≤ 122 by omega, show ¬ c ≤ 57 by omega]
  rw [if_pos h3, if_neg rae]; by_cases h4 : c < 48; rotate_left
  ·rw [if_neg h4, if_pos rae]; by_cases h5 : c > 57; rotate_left
   ·rw [if_neg h5]; simp [show c ≤ 57 by omega]
   rw [if_pos h5]; simp [show ¬ c ≤ 57 by omega]
  rw [if_pos h4, if_neg rae]; simp
theorem name_same (k : Nat) (x : ByteArray) : aW_.f k x = al_.f k x := by
 have hj : ∀ b, aW_.j0 k x b = al_.j0 k x b := by
  intro b
  cases k with
  | zero => rfl
  | succ k => simp only [aW_.j0, al_.j0, name_round]
 unfold aW_.f al_.f cq_.f; simp only [hj]; by_cases h0 : x.toList = []; rotate_left
 ·have : x.size ≠ 0 := by
   intro e; apply h0; apply List.eq_nil_of_length_eq_zero; rw [toList_len, e]
  rw [if_neg h0, if_neg (show ¬ (x.size : Int) < 1 by omega)]; by_cases h1 : (x.size : Int) > 10; rotate_left
  ·rw [if_neg h1, if_neg h1, if_pos (show 0 < (x.size : Int) by omega), if_pos (show 0 < (x.size : Int) by omega)]; generalize bt x 0 = c; by_cases h3 : c < 97; rotate_left
   ·rw [if_neg h3, if_pos (show c ≥ 97 by omega)]; simp only [ob_]
    congr 1
    by_cases h4 : c > 122; rotate_left
    ·simp [h4, show c ≤ 122 by omega]
    simp [h4, show ¬ c ≤ 122 by omega]
   rw [if_pos h3, if_neg (show ¬ c ≥ 97 by omega)]; rfl
  rw [if_pos h1, if_pos h1]
 have : x.size = 0 := by rw [← toList_len, h0]; rfl
 rw [if_pos h0, if_pos rae]
theorem name_ev (x : ByteArray) : ∃ b, ∀ k, 12 < k → al_.f k x = some b := by
 have go : ∀ (d : Nat) (i : Int), 0 ≤ i → i + d = x.size → (x.size : Int) ≤ 10 → ∃ b, ∀ k, d < k → al_.l0 k x i = some b := by
  intro d
  induction d with
  | zero =>
   intro i h0 h1 _; refine ⟨true, fun k hk => ?_⟩; obtain ⟨k, rfl⟩ : ∃ m, k = m + 1 := ⟨k - 1, rae⟩; simp only [al_.l0]; rw [if_neg rae]
  | succ d ih =>
   intro i h0 h1 h2; obtain ⟨b, hb⟩ := ih (i + 1) rae rae h2; by_cases h3 : bt x i < 97; rotate_left
   ·by_cases h4 : bt x i > 122; rotate_left
    ·refine ⟨b, fun k hk => ?_⟩; obtain ⟨k, rfl⟩ : ∃ m, k = m + 1 := ⟨k - 1, rae⟩; simp only [al_.l0]; rw [if_pos rae, if_pos h0, if_neg h3, if_neg h4, w64 rae rae, hb k rae]
    refine ⟨false, fun k hk => ?_⟩; obtain ⟨k, rfl⟩ : ∃ m, k = m + 1 := ⟨k - 1, rae⟩; simp only [al_.l0]; rw [if_pos rae, if_pos h0, if_neg h3, if_pos h4, if_neg rae, if_pos rae]
   by_cases h4 : bt x i < 48; rotate_left
   ·by_cases h5 : bt x i > 57; rotate_left
    ·refine ⟨b, fun k hk => ?_⟩; obtain ⟨k, rfl⟩ : ∃ m, k = m + 1 := ⟨k - 1, rae⟩; simp only [al_.l0]; rw [if_pos rae, if_pos h0, if_pos h3, if_neg h4, if_neg h5, w64 rae rae, hb k rae]
    refine ⟨false, fun k hk => ?_⟩; obtain ⟨k, rfl⟩ : ∃ m, k = m + 1 := ⟨k - 1, rae⟩; simp only [al_.l0]; rw [if_pos rae, if_pos h0, if_pos h3, if_neg h4, if_pos h5]
   refine ⟨false, fun k hk => ?_⟩; obtain ⟨k, rfl⟩ : ∃ m, k = m + 1 := ⟨k - 1, rae⟩; simp only [al_.l0]; rw [if_pos rae, if_pos h0, if_pos h3, if_pos h4]
 have hj : ∀ (b : Bool), (b = false → (x.size : Int) ≤ 10) → ∃ c, ∀ k, 12 < k → al_.j0 k x b = some c := by
  intro b hs
  cases b with
  | true =>
   refine ⟨false, fun k hk => ?_⟩; obtain ⟨k, rfl⟩ : ∃ m, k = m + 1 := ⟨k - 1, rae⟩; simp only [al_.j0, if_true]
  | false =>
   obtain ⟨c, hc⟩ := go x.size 0 rae rae (hs rfl); have := hs rfl; refine ⟨c, fun k hk => ?_⟩; obtain ⟨k, rfl⟩ : ∃ m, k = m + 1 := ⟨k - 1, rae⟩; simp only [al_.j0]; rw [if_neg rah, hc k rae]
 unfold al_.f; by_cases h1 : (x.size : Int) < 1; rotate_left
 ·simp only [if_neg h1]; by_cases h2 : (x.size : Int) > 10; rotate_left
  ·simp only [if_neg h2, if_pos (show 0 < (x.size : Int) by omega)]; by_cases h3 : bt x 0 < 97; rotate_left
   ·simp only [if_neg h3]; exact hj _ (fun _ => by omega)
   simp only [if_pos h3]; exact hj true (by intro h; cases h)
  simp only [if_pos h2]; exact hj true (by intro h; cases h)
 simp only [if_pos h1]; exact hj true (by intro h; cases h)
def spi (l : List UInt8) : Int := if l = [97, 115, 104] then 0 else if l = [98, 101, 101, 99, 104] then 1 else if l = [98, 105, 114, 99, 104] then 2 else if l = [99, 104, 101, 114, 114, 121] then 3 else if l = [101, 98, 111, 110, 121] then 4 else if l = [104, 111, 108, 108, 121] then 5 else if l = [109, 97, 112, 108, 101] then 6 else if l = [111, 97, 107] then 7 else if l = [114, 111, 115, 101, 119, 111, 111, 100] then 8 else if l = [119, 97, 108, 110, 117, 116] then 9 else -1
def shades : List Int := [20, 35, 15, 50, 95, 5, 10, 40, 80, 70]
theorem sp_cases (l : List UInt8) : (l = [97, 115, 104]) ∨ (l = [98, 101, 101, 99, 104]) ∨ (l = [98, 105, 114, 99, 104]) ∨ (l = [99, 104, 101, 114, 114, 121]) ∨ (l = [101, 98, 111, 110, 121]) ∨ (l = [104, 111, 108, 108, 121]) ∨ (l = [109, 97, 112, 108, 101]) ∨ (l = [111, 97, 107]) ∨ (l = [114, 111, 115, 101, 119, 111, 111, 100]) ∨ (l = [119, 97, 108, 110, 117, 116]) ∨ (¬ l = [97, 115, 104] ∧ ¬ l = [98, 101, 101, 99, 104] ∧ ¬ l = [98, 105, 114, 99, 104] ∧ ¬ l = [99, 104, 101, 114, 114, 121] ∧ ¬ l = [101, 98, 111, 110, 121] ∧ ¬ l = [104, 111, 108, 108, 121] ∧ ¬ l = [109, 97, 112, 108, 101] ∧ ¬ l = [111, 97, 107] ∧ ¬ l = [114, 111, 115, 101, 119, 111, 111, 100] ∧ ¬ l = [119, 97, 108, 110, 117, 116]) := by
 by_cases h0 : l = [97, 115, 104]
 ·exact .inl h0
 by_cases h1 : l = [98, 101, 101, 99, 104]
 ·exact .inr ((.inl h1))
 by_cases h2 : l = [98, 105, 114, 99, 104]
 ·exact .inr (.inr ((.inl h2)))
 by_cases h3 : l = [99, 104, 101, 114, 114, 121]
 ·exact .inr (.inr (.inr ((.inl h3))))
 by_cases h4 : l = [101, 98, 111, 110, 121]
 ·exact .inr (.inr (.inr (.inr ((.inl h4)))))
 by_cases h5 : l = [104, 111, 108, 108, 121]
 ·exact .inr (.inr (.inr (.inr (.inr ((.inl h5))))))
 by_cases h6 : l = [109, 97, 112, 108, 101]
 ·exact .inr (.inr (.inr (.inr (.inr (.inr ((.inl h6)))))))
 by_cases h7 : l = [111, 97, 107]
 ·exact .inr (.inr (.inr (.inr (.inr (.inr (.inr ((.inl h7))))))))
 by_cases h8 : l = [114, 111, 115, 101, 119, 111, 111, 100]
 ·exact .inr (.inr (.inr (.inr (.inr (.inr (.inr (.inr ((.inl h8)))))))))
 by_cases h9 : l = [119, 97, 108, 110, 117, 116]
 ·exact .inr (.inr (.inr (.inr (.inr (.inr (.inr (.inr (.inr ((.inl h9))))))))))
 exact .inr (.inr (.inr (.inr (.inr (.inr (.inr (.inr (.inr (.inr (⟨h0, h1, h2, h3, h4, h5, h6, h7, h8, h9⟩))))))))))
def vVen (l : List UInt8) (sh gr : Int) : Bool := decide (0 ≤ spi l) && ((decide (0 ≤ sh) && decide (sh ≤ 100)) && ((decide (rd shades (spi l) - 15 ≤ sh) && decide (sh ≤ rd shades (spi l) + 15)) && (decide (0 ≤ gr) && decide (gr ≤ 179))))
theorem spi_range (l : List UInt8) : -1 ≤ spi l ∧ spi l ≤ 9 := by
 rcases sp_cases l with h | h | h | h | h | h | h | h | h | h | h
 all_goals first | (subst h; decide) | (obtain ⟨h0, h1, h2, h3, h4, h5, h6, h7, h8, h9⟩ := h; unfold spi; simp only [h0, h1, h2, h3, h4, h5, h6, h7, h8, h9, if_false]; decide)
theorem shade_of (i : Int) (h0 : 0 ≤ i) (h1 : i ≤ 9) : ∃ t, cZ_.f = some t ∧ i < t.length ∧ 0 < (rd_L4 t i).length ∧ rd (rd_L4 t i) 0 = rd shades i ∧ 0 ≤ rd shades i ∧ rd shades i ≤ 100 := by
 refine ⟨_, rfl, ?_⟩; obtain ⟨n, rfl⟩ := Int.eq_ofNat_of_zero_le h0; have hn : n ≤ 9 := by omega
 match n, hn with
 | 0, _ => decide
 | 1, _ => decide
 | 2, _ => decide
 | 3, _ => decide
 | 4, _ => decide
 | 5, _ => decide
 | 6, _ => decide
 | 7, _ => decide
 | 8, _ => decide
 | 9, _ => decide
theorem iShade_f (a : ByteArray) : bV_.f a = some (if 0 ≤ spi a.toList then (rd shades (spi a.toList), true) else (0, false)) := by
 unfold bV_.f cz_.f spi; generalize a.toList = l
 rcases sp_cases l with h | h | h | h | h | h | h | h | h | h | h
 all_goals first | (subst h; decide) | (obtain ⟨h0, h1, h2, h3, h4, h5, h6, h7, h8, h9⟩ := h; simp only [h0, h1, h2, h3, h4, h5, h6, h7, h8, h9, if_false]; decide)
theorem iValidVeneer_f (a : ByteArray) (sh gr : Int) : bF_.f a sh gr = some (vVen a.toList sh gr) := by
 unfold bF_.f vVen; rw [iShade_f]; simp only [ob_]; have hr := spi_range a.toList; by_cases h : 0 ≤ spi a.toList; rotate_left
 ·rw [if_neg h, show decide (0 ≤ spi a.toList) = false from def_ h]
  simp
 rw [if_pos h]; obtain ⟨t, ht, h1, h2, h3, h4, h5⟩ := shade_of (spi a.toList) h rae; simp only [if_true, within_f, ob_]; rw [show decide (0 ≤ spi a.toList) = true from det h]; cases hs : (decide (0 ≤ sh) && decide (sh ≤ 100))
 ·simp
 ·have hs' : 0 ≤ sh ∧ sh ≤ 100 := by simpa using hs
  rw [w64 rae rae]; simp only [if_true, ite_and, Bool.true_and]
  congr 2
  rw [Bool.eq_iff_iff]; simp only [Bool.and_eq_true, decide_eq_true_eq]
  omega
def noNl : List UInt8 → Bool
 | [] => true
 | x :: l => if x = 10 then false else noNl l
theorem noNl_index : ∀ l : List UInt8, (!decide (0 ≤ Go.Lib.indexByte l 10)) = noNl l
 | [] => by decide
 | x :: l => by
  have ih := noNl_index l; have hg := Go.Lib.indexByte_ge l 10; unfold noNl Go.Lib.indexByte; by_cases h : x = 10; rotate_left
  ·have hb : (x == 10) = false := by simpa using h
   rw [if_neg (by rw [hb]; decide), if_neg h, ← ih]; by_cases h2 : Go.Lib.indexByte l 10 = -1; rotate_left
   ·have hb2 : (Go.Lib.indexByte l 10 == -1) = false := by simpa using h2
    rw [if_neg (by rw [hb2]; decide)]
    simp [show 0 ≤ Go.Lib.indexByte l 10 by omega, show 0 ≤ Go.Lib.indexByte l 10 + 1 by omega]
   simp [h2]
  simp [h]
theorem bt_get (s : ByteArray) (i : Nat) (h : i < s.data.toList.length) : (bt s (i : Int) = 10) = (s.data.toList[i] = 10) := by
 have hs : i < s.size := by rw [Array.length_toList] at h; exact h
 unfold bt; rw [dif_pos (show (i : Int).toNat < s.size from hs)]; have e : s[(i : Int).toNat]'hs = s.data.toList[i] := by simp; rfl
 rw [e]
 apply propext
 constructor
 ·intro he; apply UInt8.toNat_inj.1; have : (s.data.toList[i].toNat : Int) = ((10 : UInt8).toNat : Int) := he; exact Int.ofNat_inj.1 this
 ·intro he; rw [he]; rfl
theorem oneB_loop (x : S60) (hx : (x.f2.size : Int) ≤ 1048576) (na nb : Bool) (ha : ∀ k, 12 < k → al_.f k x.f0 = some na) (hb : ∀ k, 12 < k → al_.f k x.f1 = some nb) : ∀ (d i : Nat), i + d = x.f2.size → ∀ k, d + 20 < k → aC_.l0 k [x] i = some (noNl (x.f2.data.toList.drop i) && (na && (nb && decide ((x.f2.size : Int) ≤ 400)))) := by
 have hrd : ab_ [x] 0 = x := rfl; have hsz : x.f2.data.toList.length = x.f2.size := by rw [Array.length_toList]; rfl
 have g0 : (0 < (([x] : List S60).length : Int)) = True := eq_true rav; intro d
 induction d with
 | zero =>
  intro i h k hk; obtain ⟨k, rfl⟩ : ∃ m, k = m + 1 := ⟨k - 1, rae⟩; have g1 : ((i : Int) < (x.f2.size : Int)) = False := eq_false rae; simp only [aC_.l0, hrd, g0, g1, if_true, if_false, name_same, ha k rae, hb k rae, ob_]; rw [List.drop_of_length_le rae]; cases na <;> cases nb <;> simp [noNl]
 | succ d ih =>
  intro i h k hk; obtain ⟨k, rfl⟩ : ∃ m, k = m + 1 := ⟨k - 1, rae⟩; have g1 : ((i : Int) < (x.f2.size : Int)) = True := eq_true rae; have g2 : (0 ≤ (i : Int)) = True := eq_true rae; have g4 : wrap64 ((i : Int) + 1) = ((i + 1 : Nat) : Int) := by rw [w64 rae rae]; omega
  have hi : i < x.f2.data.toList.length := by omega
  simp only [aC_.l0, hrd, g0, g1, g2, g4, if_true]; rw [List.drop_eq_getElem_cons hi]; unfold noNl; by_cases hc : x.f2.data.toList[i] = 10; rotate_left
  ·rw [if_neg (by rw [bt_get x.f2 i hi]; exact hc), if_neg hc, ih (i + 1) rae k rae]
  rw [if_pos ((bt_get x.f2 i hi).symm ▸ hc), if_pos hc]; rfl
theorem validB_ev (x : S60) (hx : (x.f2.size : Int) ≤ 1048576) : ∃ b, ∀ k, 2000000 < k → aC_.f k [x] = some b ∧ bo_.f k x.f0 x.f1 x.f2 = some b := by
 obtain ⟨na, ha⟩ := name_ev x.f0; obtain ⟨nb, hb⟩ := name_ev x.f1; refine ⟨noNl x.f2.data.toList && (na && (nb && decide ((x.f2.size : Int) ≤ 400))), fun k hk => ⟨?_, ?_⟩⟩
 ·have := oneB_loop x hx na nb ha hb x.f2.size 0 rae k rae; unfold aC_.f
  simpa using this
 ·unfold bo_.f strings_Contains.f; rw [ha k rae, hb k rae]; have hn := noNl_index x.f2.data.toList; cases na
  ·simp
  ·cases nb
   ·simp
   ·by_cases h4 : (x.f2.size : Int) ≤ 400
    ·simp only [ob_, if_true, h4]; rw [hn]; simp
    ·simp [h4]
theorem index_miss (c : UInt8) : ∀ Y : List UInt8, c ∉ Y → Go.Lib.index Y [c] = -1
 | [], _ => by simp [Go.Lib.index]
 | b :: Y, h => by
  have hb : ¬ c = b := fun e => h (by simp [e]); have ih := index_miss c Y (fun q => h (by simp [q])); have hp : ([c] : List UInt8).isPrefixOf (b :: Y) = false := by simp [List.isPrefixOf, hb]
  rw [Go.Lib.index, hp, ih]
  simp
theorem index_hit (c : UInt8) : ∀ A B : List UInt8, c ∉ A → Go.Lib.index (A ++ c :: B) [c] = (A.length : Int)
 | [], B, _ => by rw [List.nil_append, Go.Lib.index]; simp [List.isPrefixOf]
 | b :: A, B, h => by
  have hb : ¬ c = b := fun e => h (by simp [e]); have ih := index_hit c A B (fun q => h (by simp [q])); have hp : ([c] : List UInt8).isPrefixOf (b :: (A ++ c :: B)) = false := by simp [List.isPrefixOf, hb]
  rw [List.cons_append, Go.Lib.index, hp, ih]
  simp
theorem splitK_miss (c : UInt8) (Y : List UInt8) (h : c ∉ Y) (k : Nat) : Go.Lib.splitK [c] 0 k Y = [Y] := by
 cases k with
 | zero => rfl
 | succ k =>
  rw [Go.Lib.splitK, index_miss c Y h]; try rfl
theorem splitK_hit (c : UInt8) (A B : List UInt8) (h : c ∉ A) (k : Nat) : Go.Lib.splitK [c] 0 (k + 1) (A ++ c :: B) = A :: Go.Lib.splitK [c] 0 k B := by
 have hne : ¬ (((A.length : Nat) : Int) == -1) = true := fun e => by have := beq_iff_eq.1 e; omega
 rw [Go.Lib.splitK, index_hit c A B h, if_neg hne]
 simp
theorem splitN_f (Y : List UInt8) (hY : Y.length ≤ 1048576) (c : UInt8) : strings_SplitN.f (Bs Y) (Bs [c]) 3 = some ((Go.Lib.splitK [c] 0 (min 3 (Y.length + 1) - 1) Y).map Bs) := by
 unfold strings_SplitN.f; rw [if_pos ⟨by rw [bP_]; omega, by rw [bP_]; simp, rae, rae⟩]
 congr 1
 have h := Go.Lib.splitB_data (Bs [c]) 0 (min 3 (Y.length + 1) - 1) (Bs Y); rw [ck_, ck_] at h; rw [← h, List.map_map, bP_]
 conv => lhs; rw [← List.map_id (Go.Lib.splitB _ _ _ _)]
 apply List.map_congr_left
 intro x _; exact (co_ x).symm
theorem first_of (c : UInt8) : ∀ Y : List UInt8, c ∉ Y ∨ ∃ A B, Y = A ++ c :: B ∧ c ∉ A
 | [] => .inl rav
 | b :: Y => by
  by_cases h : c = b; rotate_left
  ·rcases first_of c Y with q | ⟨A, B, e, q⟩
   ·exact .inl (by simp [h, q])
   ·exact .inr ⟨b :: A, B, (by simp [e]), (by simp [h, q])⟩
  exact .inr ⟨[], Y, (by simp [h]), rav⟩
abbrev P4 := ByteArray × ByteArray × ByteArray × Int
abbrev no4 (c : Int) : P4 := ((⟨#[]⟩ : ByteArray), (⟨#[]⟩ : ByteArray), (⟨#[]⟩ : ByteArray), c)
theorem ext3 (Y : List UInt8) (n m : Nat) (a p q : List UInt8) (h : Y = a ++ p ++ q) (h1 : a.length = n) (h2 : n + p.length = m) : (Bs Y).extract n m = Bs p := by
 rw [← co_ ((Bs Y).extract n m), Go.Lib.extract_data, ck_, h]
 congr 1
 subst h1 h2
 simp
theorem spl_part (c : UInt8) : ∀ (l x : List UInt8), x ∈ spl c l → x.length ≤ l.length
 | [], x, h => by simp [spl] at h; simp [h]
 | b :: l, x, h => by
  rw [spl] at h
  split at h
  ·rcases List.mem_cons.1 h with rfl | h
   ·simp
   ·have := spl_part c l x h; simp; omega
  ·cases hs : spl c l with
   | nil => exact absurd hs (spl_ne c l)
   | cons a t =>
    rw [hs] at h; simp only at h
    rcases List.mem_cons.1 h with rfl | h
    ·have := spl_part c l a (by rw [hs]; simp); simp; omega
    ·have := spl_part c l x (by rw [hs]; simp [h]); simp; omega
def lns (s : ByteArray) : List ByteArray := (spl 10 s.data.toList).map Bs
theorem lns_len (s : ByteArray) : 1 ≤ (lns s).length ∧ (lns s).length ≤ s.size + 1 := by
 unfold lns; rw [List.length_map]; have h1 := spl_len 10 s.data.toList; have h2 := spl_ne 10 s.data.toList; have h3 : s.data.toList.length = s.size := by rw [Array.length_toList]; rfl
 have h4 : 0 < (spl 10 s.data.toList).length := List.length_pos_iff.2 h2
 omega
theorem split_i (s : ByteArray) (hs : (s.size : Int) ≤ 1048576) : strings_Split.f s (⟨#[10]⟩ : ByteArray) = some (lns s) := split_f s hs 10
theorem rdi_Leaf (l : List S46) (i : Nat) (h : i < l.length) : aa_ l (i : Int) = l[i] := by unfold aa_; exact getD_in l _ i h
theorem de_ (l : List S60) (i : Nat) (h : i < l.length) : ab_ l (i : Int) = l[i] := by unfold ab_; exact getD_in l _ i h
abbrev Lf := S46
abbrev Bx := S107
def bOk (b : Bx) (w h : Int) : Prop := 0 ≤ b.f0 ∧ b.f0 ≤ w ∧ 0 ≤ b.f1 ∧ b.f1 ≤ h ∧ 1 ≤ b.f2 ∧ b.f2 ≤ 20000 ∧ 1 ≤ b.f3 ∧ b.f3 ≤ 20000
def lOk (x : Lf) : Prop := (0 ≤ x.f2 ∧ x.f2 ≤ 999) ∧ vVen x.f3.f0.toList x.f3.f1 x.f3.f2 = true ∧ (10 ≤ x.f4 ∧ x.f4 ≤ 20000) ∧ (10 ≤ x.f5 ∧ x.f5 ≤ 20000) ∧ x.f6.length ≤ 6 ∧ ∀ b ∈ x.f6, bOk b x.f4 x.f5
def sT (x : Lf) : ByteArray := (its x.f4 ++ (⟨#[120]⟩ : ByteArray)) ++ its x.f5
theorem join_one (c : UInt8) (x : List UInt8) : Go.Lib.join [x] [c] = x := by simp [Go.Lib.join, List.intercalate]
theorem dC_ (c : UInt8) (x y : List UInt8) (r : List (List UInt8)) : Go.Lib.join (x :: y :: r) [c] = x ++ c :: Go.Lib.join (y :: r) [c] := by simp [Go.Lib.join, List.intercalate]
theorem join_spl (c : UInt8) : ∀ L : List UInt8, Go.Lib.join (spl c L) [c] = L
 | [] => by rw [spl, join_one]
 | b :: l => by
  have ih := join_spl c l; rw [spl]
  split
  ·rename_i h
   cases hs : spl c l with
   | nil => exact absurd hs (spl_ne c l)
   | cons a t => rw [dC_, ← hs, ih, h]; rfl
  ·cases hs : spl c l with
   | nil => exact absurd hs (spl_ne c l)
   | cons a t =>
    rw [hs] at ih; simp only []
    cases t with
    | nil => rw [join_one] at ih ⊢; rw [ih]
    | cons y r => rw [dC_] at ih ⊢; rw [← ih]; rfl
theorem spl_short (c : UInt8) : ∀ l : List UInt8, ∀ x ∈ spl c l, x.length ≤ l.length := by
 intro l
 induction l with
 | nil => intro x hx; simp [spl] at hx; simp [hx]
 | cons b l ih =>
  intro x hx; rw [spl] at hx
  split at hx
  ·rcases List.mem_cons.1 hx with rfl | hx
   ·simp
   ·have := ih x hx; simp; omega
  ·split at hx
   ·rename_i h t e
    rcases List.mem_cons.1 hx with rfl | hx
    ·have := ih h (by rw [e]; simp); simp; omega
    ·have := ih x (by rw [e]; simp [hx]); simp; omega
   ·have : x = [b] := by simpa using hx
    subst this
    simp
theorem spl_miss (c : UInt8) (L : List UInt8) (h : Go.Lib.index L [c] = -1) : spl c L = [L] := by
 rw [← splitK_eq, Go.Lib.count_miss h]; rfl
theorem spl_hit (c : UInt8) (L : List UInt8) (j : Nat) (h : Go.Lib.index L [c] = j) : spl c L = L.take j :: spl c (L.drop (j + 1)) := by
 rw [← splitK_eq, Go.Lib.count_hit rav h, ← splitK_eq c (L.drop (j + 1))]; rw [show [c].length = 1 from rfl, Nat.add_comm, Go.Lib.splitK, h]; rfl
def vtx (a : ByteArray) (m n : Int) : ByteArray := (((a ++ (⟨#[32]⟩ : ByteArray)) ++ its m) ++ (⟨#[32]⟩ : ByteArray)) ++ its n
def bLi (b : Bx) : List Int := [b.f0, b.f1, b.f2, b.f3]
def bTx (b : Bx) : ByteArray := LT_ (bLi b)
def lPs (x : Lf) : List ByteArray := [x.f0, x.f1, its x.f2, vtx x.f3.f0 x.f3.f1 x.f3.f2, (its x.f4 ++ (⟨#[120]⟩ : ByteArray)) ++ its x.f5]
theorem vVen_rg (l : List UInt8) (s g : Int) (h : vVen l s g = true) : (0 ≤ s ∧ s ≤ 100) ∧ 0 ≤ g ∧ g ≤ 179 := by
 unfold vVen at h; simp only [Bool.and_eq_true, decide_eq_true_eq] at h
 omega
theorem ltext_ev (x : Lf) (s : ByteArray) (hs : (s.size : Int) ≤ 1048576) (hx : lPs x ++ x.f6.map bTx = (spl 47 s.data.toList).map Bs) (h : lOk x) (hbn : ∀ b ∈ x.f6, ∀ n ∈ bLi b, nmOk n) (hv : Ev (fun k => bf_.f k x.f0 x.f1 x.f2 x.f3.f0 x.f3.f1 x.f3.f2 x.f4 x.f5 x.f6) true) :
  Ev (fun k => ba_.f k x.f0 x.f1 x.f2 x.f3.f0 x.f3.f1 x.f3.f2 x.f4 x.f5 x.f6) s := by
 obtain ⟨n2, vv, n4, n5, l6, hb⟩ := h; obtain ⟨sr, gr⟩ := vVen_rg _ _ _ vv; have hL : s.data.toList.length = s.size := Array.length_toList
 have hall : ∀ y ∈ lPs x ++ x.f6.map bTx, (y.size : Int) ≤ 1048576 := by
  intro y hy; rw [hx] at hy; obtain ⟨l, hl, rfl⟩ := List.mem_map.1 hy; have := spl_short 47 s.data.toList l hl; rw [bP_]
  omega
 have z0 : x.f0.size ≤ 1048576 := by have := hall x.f0 (by simp [lPs]); omega
 have zv := hall (vtx x.f3.f0 x.f3.f1 x.f3.f2) (by simp [lPs]); have zs := hall ((its x.f4 ++ (⟨#[120]⟩ : ByteArray)) ++ its x.f5) (by simp [lPs]); have q1 : (⟨#[32]⟩ : ByteArray).size = 1 := rfl; have q2 : (⟨#[120]⟩ : ByteArray).size = 1 := rfl; unfold vtx at zv; simp only [ByteArray.size_append] at zv zs; have i2 := dd_ x.f2 rae rae; have i31 := dd_ x.f3.f1 rae rae; have i32 := dd_ x.f3.f2 rae rae; have i4 := dd_ x.f4 rae rae; have i5 := dd_ x.f5 rae rae
 have iv : bz_.f x.f3.f0 x.f3.f1 x.f3.f2 = some (vtx x.f3.f0 x.f3.f1 x.f3.f2) := by
  unfold bz_.f; rw [iValidVeneer_f, vv, ob_, if_pos rfl, if_pos rae, i31, ob_, if_pos rae, if_pos rae, i32, ob_, if_pos rae]; rfl
 have hr : ∀ i (hi : i < x.f6.length), aF_ x.f6 (i : Int) = x.f6[i] := fun i hi => by unfold aF_; exact getD_in x.f6 _ i hi
 simp only [ba_.f]
 have fin : strings_Join.f (lPs x ++ x.f6.map bTx) (⟨#[47]⟩ : ByteArray) = some s := by
  have e : Go.Lib.join ((lPs x ++ x.f6.map bTx).map (·.data.toList)) (⟨#[47]⟩ : ByteArray).data.toList = s.data.toList := by
   rw [hx, List.map_map, show (⟨#[47]⟩ : ByteArray).data.toList = [47] from rfl]; have : ((fun y : ByteArray => y.data.toList) ∘ Bs) = id := by funext l; simp
   rw [this, List.map_id, join_spl]
  unfold strings_Join.f; rw [e, if_pos ⟨by simp [lPs]; omega, rae⟩]
 have go : ∀ (d i : Nat), i + d = x.f6.length → Ev (fun k => ba_.l0 k (lPs x ++ (x.f6.take i).map bTx) x.f6 (x.f6.length : Int) i) s := by
  intro d
  induction d with
  | zero =>
   intro i h; refine aO_ ?_; simp only [ba_.l0]; refine Ev_f rae ?_; rw [List.take_of_length_le rae, fin]; exact Ev_s (Ev_n rfl)
  | succ d ih =>
   intro i h; have hi : i < x.f6.length := by omega
   have hm := List.getElem_mem hi; have t1 := list_impl (bLi x.f6[i]) (by simp [bLi]) (hbn _ hm)
   have t2 : Ev (fun k => di_.f k x.f6[i].f0 x.f6[i].f1 x.f6[i].f2 x.f6[i].f3) (bTx x.f6[i]) := by
    simp only [di_.f]; exact Ev_b t1 (Ev_n rfl)
   refine aO_ ?_; simp only [ba_.l0]; rw [hr i hi, wr64s i rae]; have nx := ih (i + 1) rae; rw [List.take_succ_eq_append_getElem hi, List.map_append, ← List.append_assoc] at nx; exact Ev_t rae (Ev_t rae (Ev_t rae (Ev_b t2 (Ev_t (by simp [lPs]; omega) nx))))
 have g0 := go x.f6.length 0 rae; rw [List.take_zero, List.map_nil, List.append_nil] at g0; exact Ev_b hv (Ev_t rfl (Ev_b (Ev_c i2) (Ev_b (Ev_c iv) (Ev_b (Ev_c i4) (Ev_t rae (Ev_b (Ev_c i5) (Ev_t rae g0)))))))
abbrev Rec := ByteArray × ByteArray × Int × ByteArray × Int × Int × Int × Int × List Bx × Bool
def rL (x : Lf) : Rec := (x.f0, x.f1, x.f2, x.f3.f0, x.f3.f1, x.f3.f2, x.f4, x.f5, x.f6, true)
theorem rd_B (l : List S60) (i : Nat) (h : i < l.length) : ab_ l (i : Int) = l[i] := by unfold ab_; simp [List.getD, h]
theorem cmp_lt : ∀ l m : List UInt8, (Go.Lib.compareBytes l m < 0 ↔ Op.bytesLess l m = true) ∧ (Go.Lib.compareBytes l m = 0 ↔ l = m)
 | [], [] => by simp [Go.Lib.compareBytes, Op.bytesLess]
 | [], _ :: _ => by simp [Go.Lib.compareBytes, Op.bytesLess]
 | _ :: _, [] => by simp [Go.Lib.compareBytes, Op.bytesLess]
 | a :: x, b :: y => by
  obtain ⟨h1, h2⟩ := cmp_lt x y; unfold Go.Lib.compareBytes Op.bytesLess; by_cases hab : a < b; rotate_left
  ·by_cases hba : b < a; rotate_left
   ·have he : a = b := UInt8.le_antisymm (UInt8.not_lt.1 hba) (UInt8.not_lt.1 hab); subst he; simp only [hab, if_false, h1, h2]
    simp
   have hne : a ≠ b := fun e => by subst e; exact absurd hba (UInt8.lt_irrefl _)
   simp [hab, hba, hne]
  have hne : a ≠ b := fun e => by subst e; exact absurd hab (UInt8.lt_irrefl _)
  simp [hab, hne]
theorem before_ev (x y : S60) : ∃ c, bQ_.f [x] [y] = some (!decide (c ≥ (0 : Int))) ∧ bi_.f x.f0 x.f1 x.f2 y.f0 y.f1 y.f2 = some c := by
 have h1 : ab_ [x] 0 = x := rfl; have h2 : ab_ [y] 0 = y := rfl; unfold bQ_.f bi_.f strings_Compare.f; simp only [h1, h2, ob_, Go.ByteArray.toList_eq]; rw [if_pos rav, if_pos rav]; obtain ⟨a1, a2⟩ := cmp_lt x.f0.data.toList y.f0.data.toList; obtain ⟨b1, _⟩ := cmp_lt x.f1.data.toList y.f1.data.toList; by_cases hz : Go.Lib.compareBytes x.f0.data.toList y.f0.data.toList = 0; rotate_left
 ·refine ⟨Go.Lib.compareBytes x.f0.data.toList y.f0.data.toList, ?_, (by rw [if_neg hz])⟩; by_cases hl : Op.bytesLess x.f0.data.toList y.f0.data.toList = true; rotate_left
  ·have : ¬ Go.Lib.compareBytes x.f0.data.toList y.f0.data.toList < 0 := fun e => hl (a1.1 e); rw [if_neg hl, if_neg (fun e => hz (a2.2 e))]
   simp [show Go.Lib.compareBytes x.f0.data.toList y.f0.data.toList ≥ 0 by omega]
  have := a1.2 hl; rw [if_pos hl]
  simp [show ¬ Go.Lib.compareBytes x.f0.data.toList y.f0.data.toList ≥ 0 by omega]
 refine ⟨Go.Lib.compareBytes x.f1.data.toList y.f1.data.toList, ?_, (by rw [if_pos hz])⟩; have hn : ¬ Op.bytesLess x.f0.data.toList y.f0.data.toList = true := fun e => by have := a1.2 e; omega
 rw [if_neg hn, if_pos (a2.1 hz)]
 congr 1
 cases hb : Op.bytesLess x.f1.data.toList y.f1.data.toList with
 | true => have := b1.2 hb; simp [show ¬ Go.Lib.compareBytes x.f1.data.toList y.f1.data.toList ≥ 0 by omega]
 | false =>
  have : ¬ Go.Lib.compareBytes x.f1.data.toList y.f1.data.toList < 0 := fun e => by rw [b1.1 e] at hb; cases hb
  simp [show Go.Lib.compareBytes x.f1.data.toList y.f1.data.toList ≥ 0 by omega]
theorem validBS_ev (m : List S60) (hl : (m.length : Int) ≤ 1048576) (hw : ∀ y ∈ m, (y.f2.size : Int) ≤ 1048576) : ∃ b, ∀ k, 4000000 < k → br_.f k m = some b ∧ aq_.f k m = some b := by
 have go : ∀ (d i : Nat), i + d = m.length → ∃ b, ∀ k, d + 2000001 < k → br_.l0 k m i = some b ∧ aq_.l0 k m m (m.length : Int) i = some b := by
  intro d
  induction d with
  | zero =>
   intro i h1; have g1 : ((i : Int) < (m.length : Int)) = False := eq_false rae; refine ⟨decide ((m.length : Int) ≤ 32), fun k hk => ?_⟩; obtain ⟨k, rfl⟩ : ∃ m, k = m + 1 := ⟨k - 1, rae⟩; simp only [br_.l0, aq_.l0, g1, if_false]; exact ⟨trivial, trivial⟩
  | succ d ih =>
   intro i h1; obtain ⟨b, hv⟩ := validB_ev m[i] (hw _ (List.getElem_mem _)); have e1 : ∀ k, 2000000 < k → aC_.f k [m[i]] = some b := fun k h => (hv k h).1; have e2 : ∀ k, 2000000 < k → bo_.f k m[i].f0 m[i].f1 m[i].f2 = some b := fun k h => (hv k h).2; obtain ⟨c, hk0⟩ := ih (i + 1) rae; have g1 : ((i : Int) < (m.length : Int)) = True := eq_true rae; have g2 : (0 ≤ (i : Int)) = True := eq_true rae; have g3 := rd_B m i rae; have g4 : wrap64 ((i : Int) + 1) = ((i + 1 : Nat) : Int) := by rw [w64 rae rae]; omega
   have gf : (false = true) = False := by simp
   cases b with
   | false =>
    refine ⟨false, fun k hk => ?_⟩; obtain ⟨k, rfl⟩ : ∃ m, k = m + 1 := ⟨k - 1, rae⟩; simp only [br_.l0, aq_.l0, g1, g2, g3, if_true, e1 k rae, e2 k rae, ob_, gf, if_false]; exact ⟨trivial, trivial⟩
   | true =>
    by_cases hi : i = 0; rotate_left
    ·have g5 : ((i : Int) > 0) = True := eq_true rae; have g6 : wrap64 ((i : Int) - 1) = (i : Int) - 1 := w64 rae rae; have g7 : (0 ≤ (i : Int) - 1) = True := eq_true rae; have g8 : ((i : Int) - 1 < (m.length : Int)) = True := eq_true rae; obtain ⟨t, t1, t2⟩ := before_ev (ab_ m ((i : Int) - 1)) m[i]; by_cases ht : t ≥ 0; rotate_left
     ·have ht1 : (t ≥ 0) = False := eq_false ht; rw [show (!decide (t ≥ 0)) = true by simp; omega] at t1; refine ⟨c, fun k hk => ?_⟩; obtain ⟨k, rfl⟩ : ∃ m, k = m + 1 := ⟨k - 1, rae⟩; obtain ⟨f1, f2⟩ := hk0 k rae; simp only [br_.l0, aq_.l0, g1, g2, g3, if_true, e1 k rae, e2 k rae, ob_, g5, g6, g7, g8, t1, t2, ht1, if_false, g4]; exact ⟨f1, f2⟩
     have ht1 : (t ≥ 0) = True := eq_true ht; rw [show (!decide (t ≥ 0)) = false by simp; omega] at t1; refine ⟨false, fun k hk => ?_⟩; obtain ⟨k, rfl⟩ : ∃ m, k = m + 1 := ⟨k - 1, rae⟩; simp only [br_.l0, aq_.l0, g1, g2, g3, if_true, e1 k rae, e2 k rae, ob_, g5, g6, g7, g8, t1, t2, ht1, gf, if_false]; exact ⟨trivial, trivial⟩
    have g5 : ((i : Int) > 0) = False := eq_false rae; refine ⟨c, fun k hk => ?_⟩; obtain ⟨k, rfl⟩ : ∃ m, k = m + 1 := ⟨k - 1, rae⟩; obtain ⟨f1, f2⟩ := hk0 k rae; simp only [br_.l0, aq_.l0, g1, g2, g3, if_true, e1 k rae, e2 k rae, ob_, g5, if_false, g4]; exact ⟨f1, f2⟩
 obtain ⟨b, hk0⟩ := go m.length 0 rae; exact ⟨b, fun k hk => hk0 k rae⟩
abbrev Blk := S60
def cB : List UInt8 × List UInt8 → List UInt8 × List UInt8 → Int := lx Go.Lib.compareBytes
theorem cB_ord : Ordr cB := lx_ord cb_ord
def ckB (x : Blk) : List UInt8 × List UInt8 := (x.f0.data.toList, x.f1.data.toList)
theorem cmp_ev (a0 a1 a2 b0 b1 b2 : ByteArray) : bi_.f a0 a1 a2 b0 b1 b2 = some (cB (a0.data.toList, a1.data.toList) (b0.data.toList, b1.data.toList)) := by
 unfold bi_.f strings_Compare.f cB lx; simp only [ob_]
 split <;> rfl
theorem bfr_ev (x y : Blk) : bQ_.f [x] [y] = some (decide (cB (ckB x) (ckB y) < 0)) := by
 obtain ⟨c, h1, h2⟩ := before_ev x y; rw [cmp_ev] at h2; have h3 : cB (ckB x) (ckB y) = c := Option.some.inj h2; rw [h1, ← h3]
 congr 1
 by_cases h : cB (ckB x) (ckB y) < 0; rotate_left
 ·simp [h]; omega
 simp [h]
theorem key_iff (x : Blk) (u v : ByteArray) : cB (ckB x) (u.data.toList, v.data.toList) = 0 ↔ x.f0.toList = u.toList ∧ x.f1.toList = v.toList := by
 rw [cB_ord.zero]; simp only [ckB, Prod.mk.injEq, Go.ByteArray.toList_eq]
def putB (l : List Blk) (b : Blk) : List Blk :=
 if fnd (fun x => cB (ckB x) (ckB b)) l = true then l.take (plc (fun x => cB (ckB x) (ckB b)) l) ++ b :: l.drop (plc (fun x => cB (ckB x) (ckB b)) l + 1)
 else l.take (plc (fun x => cB (ckB x) (ckB b)) l) ++ b :: l.drop (plc (fun x => cB (ckB x) (ckB b)) l)
theorem put_ev (l : List Blk) (hl : (l.length : Int) ≤ 1048576) (b : Blk) (hr : Rsg (fun x => cB (ckB x) (ckB b)) l) : Ev (fun k => aP_.f k l b.f0 b.f1 b.f2) (putB l b) := by
 obtain ⟨c, hc⟩ : ∃ c, c = (fun x => cB (ckB x) (ckB b)) := ⟨_, rfl⟩; unfold putB; rw [← hc] at hr ⊢; have key : ∀ x, c x = 0 ↔ x.f0.toList = b.f0.toList ∧ x.f1.toList = b.f1.toList := fun x => by rw [hc]; exact key_iff x b.f0 b.f1
 have hb : (⟨b.f0, b.f1, b.f2⟩ : Blk) = b := rfl; have cEq : ∀ y, cB (ckB y) (ckB b) = c y := fun y => by rw [hc]
 have two : ∀ (d i : Nat) (out : List Blk), i + d = l.length → plc c l < i → out.length ≤ i + 1 → Ev (fun k => aP_.l0 k l out true i b.f0 b.f1 b.f2) (out ++ l.drop i) := by
  intro d
  induction d with
  | zero =>
   intro i out h1 h2 h3; refine aO_ ?_; simp only [aP_.l0]; rw [List.drop_of_length_le rae, List.append_nil]; exact Ev_f rae (Ev_t (by trivial) (Ev_n rfl))
  | succ d ih =>
   intro i out h1 h2 h3; refine aO_ ?_; simp only [aP_.l0]; refine Ev_t rae (Ev_t (by trivial) (aO_ ?_)); simp only [aP_.j1]; refine Ev_f rah (Ev_t rae (Ev_t rae ?_)); rw [de_ l i rae, wr64s i rae, List.drop_eq_getElem_cons (show i < l.length by omega)]; have hn : c l[i] ≠ 0 := by have := hr.gt i rae h2; omega
   have nxt := ih (i + 1) (out ++ [l[i]]) rae rae rbk; rw [List.append_assoc, List.singleton_append] at nxt; by_cases e0 : l[i].f0.toList = b.f0.toList; rotate_left
   ·exact Ev_f e0 (Ev_t rae nxt)
   refine Ev_t e0 (Ev_f (fun e1 => hn ((key _).2 ⟨e0, e1⟩)) (Ev_t rae nxt))
 have one : ∀ (d i : Nat), i + d = plc c l → Ev (fun k => aP_.l0 k l (l.take i) false i b.f0 b.f1 b.f2) (if fnd c l = true then l.take (plc c l) ++ b :: l.drop (plc c l + 1) else l.take (plc c l) ++ b :: l.drop (plc c l)) := by
  have hp0 := plc_le c l; intro d
  induction d with
  | zero =>
   intro i h1; have h1' : i = plc c l := by omega
   subst h1'; refine aO_ ?_; simp only [aP_.l0]; have hlen : (l.take (plc c l)).length = plc c l := by simp; omega
   by_cases hn : plc c l < l.length; rotate_left
   ·have hf : ¬ fnd c l = true := by unfold fnd; rw [dif_neg hn]; decide
    rw [if_neg hf, List.drop_of_length_le rae]; exact Ev_f rae (Ev_f rah (Ev_t rae (Ev_n rfl)))
   refine Ev_t rae (Ev_f rah (Ev_t rae ?_)); rw [de_ l _ hn, hb, bfr_ev]; refine Ev_s (aO_ ?_); have h0 := plc_at c l hn; rw [cEq]; simp only [aP_.j1]; refine Ev_t (by simpa using h0) (Ev_t rae (Ev_s (Ev_t rae (Ev_t rae ?_)))); rw [de_ l _ hn, hb, wr64s _ rae]
   have more : ∀ out : List Blk, out.length ≤ plc c l + 2 → Ev (fun k => aP_.l0 k l out true ((plc c l + 1 : Nat) : Int) b.f0 b.f1 b.f2) (out ++ l.drop (plc c l + 1)) := fun out ho =>
    two (l.length - (plc c l + 1)) (plc c l + 1) out rae rae ho
   by_cases hz : c l[plc c l] = 0; rotate_left
   ·have hf : ¬ fnd c l = true := by unfold fnd; rw [dif_pos hn]; simpa using hz
    rw [if_neg hf]; have last := more (l.take (plc c l) ++ [b] ++ [l[plc c l]]) rbk
    have last' : Ev (fun k => aP_.l0 k l (l.take (plc c l) ++ [b] ++ [(⟨l[plc c l].f0, l[plc c l].f1, l[plc c l].f2⟩ : Blk)]) true ((plc c l + 1 : Nat) : Int) b.f0 b.f1 b.f2) (l.take (plc c l) ++ b :: l.drop (plc c l)) := by
     refine Ev_at last ?_; rw [List.append_assoc, List.append_assoc, List.singleton_append, List.singleton_append, List.getElem_cons_drop]
    by_cases e0 : l[plc c l].f0.toList = b.f0.toList; rotate_left
    ·exact Ev_f e0 (Ev_t rbk last')
    exact Ev_t e0 (Ev_f (fun e1 => hz ((key _).2 ⟨e0, e1⟩)) (Ev_t rbk last'))
   have hf : fnd c l = true := by unfold fnd; rw [dif_pos hn]; simpa using hz
   rw [if_pos hf]; obtain ⟨e0, e1⟩ := (key _).1 hz; refine Ev_t e0 (Ev_t e1 ?_); refine Ev_at (more _ rbk) ?_; rw [List.append_assoc, List.singleton_append]
  | succ d ih =>
   intro i h1; have hi : i < l.length := by omega
   have hlen : (l.take i).length = i := by simp; omega
   refine aO_ ?_; simp only [aP_.l0]; refine Ev_t rae (Ev_f rah (Ev_t rae ?_)); rw [de_ l i hi, hb, bfr_ev]; refine Ev_s (aO_ ?_); have h0 := plc_lt c l i hi rae; rw [cEq]; simp only [aP_.j1]; refine Ev_f (by simpa using h0) (Ev_t rae (Ev_t rae ?_)); rw [de_ l i hi, wr64s i rae]; have nxt := ih (i + 1) rae; rw [List.take_succ_eq_append_getElem hi] at nxt; by_cases e0 : l[i].f0.toList = b.f0.toList; rotate_left
   ·exact Ev_f e0 (Ev_t rae nxt)
   exact Ev_t e0 (Ev_f (fun e1 => by have := (key _).2 ⟨e0, e1⟩; omega) (Ev_t rae nxt))
 simp only [aP_.f]; exact one (plc c l) 0 rae
def Vb (b : Blk) : Prop := (b.f2.size : Int) ≤ 1048576 ∧ ∀ k, 2000000 < k → bo_.f k b.f0 b.f1 b.f2 = some true ∧ aC_.f k [b] = some true
theorem spl_nl (c : UInt8) : ∀ M : List UInt8, spl c (M ++ [c]) = spl c M ++ [[]]
 | [] => by simp [spl]
 | b :: M => by
  have ih := spl_nl c M; rw [List.cons_append, spl, spl, ih]
  split
  ·rfl
  ·cases hs : spl c M with
   | nil => exact absurd hs (spl_ne c M)
   | cons a t => rfl
theorem spl_end (c d : UInt8) (hd : d ≠ c) : ∀ M : List UInt8, ∃ P q, spl c (M ++ [d]) = P ++ [q] ∧ q ≠ []
 | [] => ⟨[], [d], (by simp [spl, hd]), rav⟩
 | b :: M => by
  obtain ⟨P, q, e, hq⟩ := spl_end c d hd M; rw [List.cons_append, spl, e]
  split
  ·exact ⟨[] :: P, q, rfl, hq⟩
  ·cases P with
   | nil => exact ⟨[], b :: q, rfl, rav⟩
   | cons a t => exact ⟨(b :: a) :: t, q, rfl, hq⟩
theorem splM (c : UInt8) : ∀ Y : List UInt8, c ∉ Y → spl c Y = [Y]
 | [], _ => rfl
 | b :: Y, h => by
  rw [spl, if_neg (fun e => h (by simp [e])), splM c Y (fun q => h (by simp [q]))]
theorem splH (c : UInt8) : ∀ A B : List UInt8, c ∉ A → spl c (A ++ c :: B) = A :: spl c B
 | [], B, _ => by rw [List.nil_append, spl, if_pos rfl]
 | b :: A, B, h => by
  rw [List.cons_append, spl, if_neg (fun e => h (by simp [e])), splH c A B (fun q => h (by simp [q]))]
theorem suffix_f (M : List UInt8) (d : UInt8) (hM : M.length < 1000000000) : strings_HasSuffix.f (Bs (M ++ [d])) (⟨#[10]⟩ : ByteArray) = some (decide (d = 10)) := by
 unfold strings_HasSuffix.f stringslite_HasSuffix.f; have h1 : (⟨#[10]⟩ : ByteArray).size = 1 := rfl; have h2 : (Bs (M ++ [d])).size = M.length + 1 := by rw [bP_]; simp
 have ew : wrap64 (((M.length + 1 : Nat) : Int) - ((1 : Nat) : Int)) = (M.length : Int) := by rw [wr64 rae rae]; omega
 rw [h1, h2, ew, if_pos rae, if_pos rae, if_pos rae, Int.toNat_natCast]
 have e : (Bs (M ++ [d])).extract M.length (M.length + 1) = Bs [d] := by
  exact ext3 (M ++ [d]) M.length (M.length + 1) M [d] [] rav rfl rfl
 have e2 : (Bs [d]).toList = [d] := by rw [Go.ByteArray.toList_eq]
 have e3 : (⟨#[10]⟩ : ByteArray).toList = [10] := by rw [Go.ByteArray.toList_eq]
 rw [e, e2, e3]; simp only [ob_, Option.some.injEq]; by_cases hd : d = 10; rotate_left
 ·simp [hd]
 subst hd; rfl
theorem suffix_0 : strings_HasSuffix.f (Bs []) (⟨#[10]⟩ : ByteArray) = some false := by
 unfold strings_HasSuffix.f stringslite_HasSuffix.f; have h1 : (⟨#[10]⟩ : ByteArray).size = 1 := rfl; rw [h1, bP_, if_neg rav]; rfl
abbrev arch : List UInt8 := [97, 114, 99, 104, 105, 118, 101, 32]
theorem cut_f (x : List UInt8) (hx : x.length < 1000000000) : (∃ r, x = arch ++ r ∧ strings_CutPrefix.f (Bs x) (⟨#[97, 114, 99, 104, 105, 118, 101, 32]⟩ : ByteArray) = some (Bs r, true)) ∨ ((∀ r, x ≠ arch ++ r) ∧ strings_CutPrefix.f (Bs x) (⟨#[97, 114, 99, 104, 105, 118, 101, 32]⟩ : ByteArray) = some (Bs x, false)) := by
 have h1 : (⟨#[97, 114, 99, 104, 105, 118, 101, 32]⟩ : ByteArray) = Bs arch := rfl; have h2 : (Bs arch).size = 8 := rfl; unfold strings_CutPrefix.f stringslite_CutPrefix.f stringslite_HasPrefix.f; rw [h1, h2, bP_]; by_cases hl : 8 ≤ x.length; rotate_left
 ·refine .inr ⟨fun r hr => hl (by rw [hr]; simp), ?_⟩; rw [if_neg rae]; rfl
 rw [if_pos rae, if_pos rae, if_pos rae]; have e8 : (((8 : Nat) : Int)).toNat = 8 := rfl; rw [e8]; have hx2 : x = x.take 8 ++ x.drop 8 := (List.take_append_drop 8 x).symm; have t8 : (x.take 8).length = 8 := by rw [List.length_take]; omega
 have e : (Bs x).extract 0 8 = Bs (x.take 8) := ext3 x 0 8 [] (x.take 8) (x.drop 8) rav rfl (by simp [t8]); have e2 : (Bs x).extract 8 x.length = Bs (x.drop 8) := ext3 x 8 x.length (x.take 8) (x.drop 8) [] rav t8 (by rw [List.length_drop]; omega); have e3 : (Bs (x.take 8)).toList = x.take 8 := by rw [Go.ByteArray.toList_eq]
 have e4 : (Bs arch).toList = arch := by rw [Go.ByteArray.toList_eq]
 rw [e, e2, e3, e4]; by_cases hp : x.take 8 = arch; rotate_left
 ·refine .inr ⟨fun r hr => hp (by rw [hr]; rfl), ?_⟩; have : (x.take 8 == arch) = false := by simpa using hp
  rw [this]; rfl
 refine .inl ⟨x.drop 8, by rw [← hp]; exact hx2, ?_⟩; rw [hp]; simp only [ob_, beq_self_eq_true, if_true]; rw [if_pos rae, if_pos rae]; rfl
def bitN (c : Nat) : Nat := if c * 2 > 65535 then ((c * 2) &&& 65535) ^^^ 4129 else c * 2
def bitsN : Nat → Nat → Nat
 | 0, c => c
 | n + 1, c => bitsN n (bitN c)
def byteN (c b : Nat) : Nat := bitsN 8 (c ^^^ (b * 256))
def crcN (c : Nat) (l : List UInt8) : Nat := l.foldl (fun c b => byteN c b.toNat) c
theorem and_ffff (c : Nat) : c &&& 65535 = c % 65536 := Nat.and_two_pow_sub_one_eq_mod c 16
theorem xor_inj (a b m : Nat) (h : a ^^^ m = b ^^^ m) : a = b := by
 have := congrArg (· ^^^ m) h
 simpa [Nat.xor_assoc, Nat.xor_self] using this
theorem bitN_lt {c : Nat} (h : c < 65536) : bitN c < 65536 := by
 unfold bitN
 split
 ·rw [and_ffff]; exact Nat.xor_lt_two_pow (n := 16) (Nat.mod_lt _ rah) rah
 ·omega
theorem xor_odd (a : Nat) (h : a % 2 = 0) : (a ^^^ 4129) % 2 = 1 := by
 have h1 := Nat.testBit_xor (x := a) (y := 4129) (i := 0); rw [Nat.testBit_zero, Nat.testBit_zero, Nat.testBit_zero, h] at h1
 simpa using h1
theorem bitN_inj {c d : Nat} (hc : c < 65536) (hd : d < 65536) (h : bitN c = bitN d) : c = d := by
 unfold bitN at h; rw [and_ffff, and_ffff] at h; by_cases h1 : c * 2 > 65535; rotate_left
 ·by_cases h2 : d * 2 > 65535; rotate_left
  ·rw [if_neg h1, if_neg h2] at h
   omega
  rw [if_neg h1, if_pos h2] at h; have := xor_odd (d * 2 % 65536) rae
  omega
 by_cases h2 : d * 2 > 65535; rotate_left
 ·rw [if_pos h1, if_neg h2] at h; have := xor_odd (c * 2 % 65536) rae
  omega
 rw [if_pos h1, if_pos h2] at h; have := xor_inj _ _ _ h
 omega
theorem bitsN_lt : ∀ (n : Nat) {c : Nat}, c < 65536 → bitsN n c < 65536
 | 0, _, h => h
 | n + 1, _, h => bitsN_lt n (bitN_lt h)
theorem bitsN_inj : ∀ (n : Nat) {c d : Nat}, c < 65536 → d < 65536 → bitsN n c = bitsN n d → c = d
 | 0, _, _, _, _, h => h
 | n + 1, _, _, hc, hd, h => bitN_inj hc hd (bitsN_inj n (bitN_lt hc) (bitN_lt hd) h)
theorem in_lt {c b : Nat} (hc : c < 65536) (hb : b < 256) : c ^^^ (b * 256) < 65536 := Nat.xor_lt_two_pow (n := 16) hc rae
theorem byteN_lt {c b : Nat} (hc : c < 65536) (hb : b < 256) : byteN c b < 65536 := bitsN_lt 8 (in_lt hc hb)
theorem byteN_inj {c d b : Nat} (hc : c < 65536) (hd : d < 65536) (hb : b < 256) (h : byteN c b = byteN d b) : c = d :=
 xor_inj _ _ _ (bitsN_inj 8 (in_lt hc hb) (in_lt hd hb) h)
theorem byteN_ne {c b b2 : Nat} (hc : c < 65536) (hb : b < 256) (hb2 : b2 < 256) (h : byteN c b = byteN c b2) : b = b2 := by
 have h1 := bitsN_inj 8 (in_lt hc hb) (in_lt hc hb2) h; rw [Nat.xor_comm c, Nat.xor_comm c] at h1; have := xor_inj _ _ _ h1
 omega
theorem crcN_nil (c : Nat) : crcN c [] = c := by unfold crcN; rw [List.foldl_nil]
theorem dy_ (c : Nat) (b : UInt8) (l : List UInt8) : crcN c (b :: l) = crcN (byteN c b.toNat) l := by unfold crcN; rw [List.foldl_cons]
theorem byteN_eq (c b : Nat) : byteN c b = bitsN 8 (c ^^^ (b * 256)) := by unfold byteN; rfl
attribute [irreducible] byteN
theorem crcN_lt : ∀ (l : List UInt8) {c : Nat}, c < 65536 → crcN c l < 65536 := by
 intro l
 induction l with
 | nil => intro c h; rw [crcN_nil]; exact h
 | cons b l ih => intro c h; rw [dy_]; exact ih (byteN_lt h b.toNat_lt)
theorem crcN_inj : ∀ (l : List UInt8) {c d : Nat}, c < 65536 → d < 65536 → crcN c l = crcN d l → c = d := by
 intro l
 induction l with
 | nil => intro c d _ _ h; rw [crcN_nil, crcN_nil] at h; exact h
 | cons b l ih => intro c d hc hd h; rw [dy_, dy_] at h; exact byteN_inj hc hd b.toNat_lt (ih (byteN_lt hc b.toNat_lt) (byteN_lt hd b.toNat_lt) h)
theorem crcN_app : ∀ (l m : List UInt8) (c : Nat), crcN c (l ++ m) = crcN (crcN c l) m := by
 intro l
 induction l with
 | nil => intro m c; rw [crcN_nil, List.nil_append]
 | cons b l ih => intro m c; rw [List.cons_append, dy_, dy_, ih]
attribute [irreducible] crcN
theorem crc_change (A C : List UInt8) (b b2 : UInt8) (h : b ≠ b2) : crcN 65535 (A ++ b :: C) ≠ crcN 65535 (A ++ b2 :: C) := by
 intro e; rw [crcN_app, crcN_app, dy_, dy_] at e; have h0 := crcN_lt A (show 65535 < 65536 by decide); have := byteN_ne h0 b.toNat_lt b2.toNat_lt (crcN_inj C (byteN_lt h0 b.toNat_lt) (byteN_lt h0 b2.toNat_lt) e); exact h (UInt8.toNat_inj.1 this)
theorem bits_nat (op : BinOp) (hop : op = .xor ∨ op = .and) (x y : Nat) (hx : x < 131072) (hy : y < 65536) : Go.bits op .i64 (x : Int) (y : Int) = ((if op = .xor then x ^^^ y else x &&& y : Nat) : Int) := by
 have hx1 : x % 2 ^ IntKind.i64.bits = x := Nat.mod_eq_of_lt (by show x < 2 ^ 64; omega); have hy1 : y % 2 ^ IntKind.i64.bits = y := Nat.mod_eq_of_lt (by show y < 2 ^ 64; omega)
 have key : ∀ n : Nat, n < 131072 → IntKind.i64.wrap (n : Int) = (n : Int) := fun n hn => by
  rw [IntKind.wrap_i64]
  omega
 rcases hop with rfl | rfl
 ·have := key _ (Nat.xor_lt_two_pow (n := 17) hx (show y < 2 ^ 17 by omega)); rw [if_pos rfl]
  simpa only [bits, BitVec.ofInt_natCast, BitVec.toNat_xor, BitVec.toNat_ofNat, hx1, hy1] using this
 ·have h2 := Nat.and_lt_two_pow x (show y < 2 ^ 16 by omega); have := key (x &&& y) rae; rw [if_neg rah]
  simpa only [bits, BitVec.ofInt_natCast, BitVec.toNat_and, BitVec.toNat_ofNat, hx1, hy1] using this
theorem crc_val (L : List UInt8) (hL : L.length ≤ 1048576) : Ev (fun k => aV_.f k (Bs L) 65535) ((crcN 65535 L : Nat) : Int) := by
 have outer : ∀ (R P : List UInt8) (c : Nat), P ++ R = L → c < 65536 → Ev (fun k => aV_.l0 k (Bs L) (c : Int) (P.length : Int)) ((crcN c R : Nat) : Int) := by
  intro R
  induction R with
  | nil =>
   intro P c hP hc; rw [crcN_nil]; refine aO_ ?_; simp only [aV_.l0]; have : P.length = L.length := by rw [← hP]; simp
   exact Ev_f ra3 (Ev_n rfl)
  | cons b R ih =>
   intro P c hP hc; rw [dy_]; have hl : L.length = P.length + 1 + R.length := by rw [← hP]; simp; omega
   have hb : bt (Bs L) (P.length : Int) = (b.toNat : Int) := by
    rw [bt_in L P.length rae]; have : L[P.length]'rae = b := by subst hP; simp
    rw [this]
   have hbl := b.toNat_lt; have nx := ih (P ++ [b]) (byteN c b.toNat) (by simpa using hP) (byteN_lt hc hbl); rw [show (P ++ [b]).length = P.length + 1 by simp] at nx
   have inner : ∀ (d j c1 : Nat), j + d = 8 → c1 < 65536 → bitsN d c1 = byteN c b.toNat → Ev (fun k => aV_.l1 k (Bs L) (c1 : Int) (P.length : Int) (j : Int)) ((crcN (byteN c b.toNat) R : Nat) : Int) := by
    intro d
    induction d with
    | zero =>
     intro j c1 hj h1 h2; refine aO_ ?_; simp only [aV_.l1]; rw [wr64s P.length rae]; obtain rfl : c1 = byteN c b.toNat := h2; exact Ev_f rae nx
    | succ d ih2 =>
     intro j c1 hj h1 h2; have e2 : wrap64 ((c1 : Int) * 2) = ((c1 * 2 : Nat) : Int) := by rw [wr64 rae rae]; omega
     have r := ih2 (j + 1) (bitN c1) rae (bitN_lt h1) h2; refine aO_ ?_; simp only [aV_.l1]; rw [e2, wr64s j rae]; by_cases h : c1 * 2 > 65535; rotate_left
     ·have e : bitN c1 = c1 * 2 := if_neg h; rw [e] at r; exact Ev_t rae (Ev_f rae r)
     have b1 : Go.bits .and .i64 ((c1 * 2 : Nat) : Int) 65535 = (((c1 * 2) &&& 65535 : Nat) : Int) := bits_nat .and (.inr rfl) (c1 * 2) 65535 rae rae; have lt : (c1 * 2) &&& 65535 < 65536 := by rw [and_ffff]; exact Nat.mod_lt _ rah
     have b2 : Go.bits .xor .i64 (((c1 * 2) &&& 65535 : Nat) : Int) 4129 = ((((c1 * 2) &&& 65535) ^^^ 4129 : Nat) : Int) := bits_nat .xor (.inl rfl) _ 4129 rae rae; have e : bitN c1 = ((c1 * 2) &&& 65535) ^^^ 4129 := if_pos h; rw [b1, b2, ← e]; exact Ev_t rae (Ev_t rae r)
   refine aO_ ?_; simp only [aV_.l0]; have b0 : Go.bits .xor .i64 (c : Int) ((b.toNat * 256 : Nat) : Int) = ((c ^^^ (b.toNat * 256) : Nat) : Int) := bits_nat .xor (.inl rfl) c (b.toNat * 256) rae rae; rw [hb, wr64 (x := (b.toNat : Int)) rae rae, show ((b.toNat : Int) * 256) = ((b.toNat * 256 : Nat) : Int) by omega, wr64 rae rae, b0]; exact Ev_t ra3 (Ev_t rae (inner 8 0 _ rae (in_lt hc hbl) (byteN_eq c b.toNat).symm))
 simp only [aV_.f]; exact outer L [] 65535 rfl rah
def valD : Nat → List UInt8 → Nat
 | a, [] => a
 | a, b :: l => valD (a * 10 + (b.toNat - 48)) l
theorem valD_app : ∀ (l m : List UInt8) (a : Nat), valD a (l ++ m) = valD (valD a l) m
 | [], _, _ => rfl
 | b :: l, m, a => valD_app l m _
theorem dg_val (d : Nat) (h : d < 10) : (UInt8.ofNat (48 + d)).toNat - 48 = d := by
 rw [UInt8.toNat_ofNat_of_lt' (show 48 + d < 256 by omega)]
 omega
theorem valD_dec (u : Nat) : valD 0 (Go.Lib.decDigits u) = u := by
 induction u using Nat.strongRecOn with
 | _ u ih =>
  rw [Go.Lib.decDigits]
  split
  ·rename_i h; show 0 * 10 + ((UInt8.ofNat (48 + u)).toNat - 48) = u; rw [dg_val u h]; omega
  ·rename_i h; rw [valD_app, ih (u / 10) rae]; show u / 10 * 10 + ((UInt8.ofNat (48 + u % 10)).toNat - 48) = u; rw [dg_val _ (Nat.mod_lt _ rah)]; omega
theorem valD_zeros : ∀ n : Nat, valD 0 (List.replicate n 48) = 0
 | 0 => rfl
 | n + 1 => valD_zeros n
theorem five_val (n : Nat) : valD 0 (five (n : Int)).data.toList = n := by
 unfold five; rw [ck_, valD_app, valD_zeros, Go.Lib.itoa_nonneg, valD_dec]
theorem five_inj {m n : Nat} (h : five (m : Int) = five (n : Int)) : m = n := by rw [← five_val m, ← five_val n, h]
end Go.Proofs.YtjebkmfljcanlaaGreatDoor.Q
namespace Go.Proofs.YtjebkmfljcanlaaGreatDoor.Q
open Go.RowKit Go.Proofs.YtjebkmfljcanlaaGreatDoorW.PrintWords Go.Proofs.YtjebkmfljcanlaaGreatDoorW.PrintLast Go.Proofs.YtjebkmfljcanlaaGreatDoorW.PrintMore Go.Proofs.Tryz
def joinL : List (List UInt8) → List UInt8
 | [] => []
 | l :: ls => l ++ 10 :: joinL ls
theorem spl_head : ∀ (l r : List UInt8), (10 : UInt8) ∉ l → spl 10 (l ++ 10 :: r) = l :: spl 10 r
 | [], r, _ => by
  show (if (10 : UInt8) = 10 then [] :: spl 10 r else _) = _; rw [if_pos rfl]
 | b :: l, r, h => by
  have hb : b ≠ 10 := fun e => h (by rw [e]; exact List.mem_cons_self ..); have ih := spl_head l r (fun e => h (List.mem_cons_of_mem _ e)); rw [List.cons_append, spl, if_neg hb, ih]
theorem spl_join : ∀ (ls : List (List UInt8)), (∀ l ∈ ls, (10 : UInt8) ∉ l) → spl 10 (joinL ls) = ls ++ [[]]
 | [], _ => rfl
 | l :: ls, h => by
  rw [joinL, spl_head l _ (h l (List.mem_cons_self ..)), spl_join ls (fun x hx => h x (List.mem_cons_of_mem _ hx))]; rfl
def cnt10 (l : List UInt8) : Nat := (l.filter (fun b => b == 10)).length
theorem dz_ (a b : List UInt8) : cnt10 (a ++ b) = cnt10 a + cnt10 b := by unfold cnt10; rw [List.filter_append, List.length_append]
theorem cnt10_no {l : List UInt8} (h : (10 : UInt8) ∉ l) : cnt10 l = 0 := by
 unfold cnt10; rw [List.length_eq_zero_iff, List.filter_eq_nil_iff]; intro x hx e; have : x = 10 := by simpa using e
 exact h (this ▸ hx)
theorem at_line : ∀ (ls : List (List UInt8)) (p : Nat) (hp : p < (joinL ls).length), (∀ l ∈ ls, (10 : UInt8) ∉ l) → (joinL ls)[p] ≠ 10 →
  ∃ (j q : Nat) (hj : j < ls.length) (hq : q < ls[j].length), ls[j][q] = (joinL ls)[p] ∧ cnt10 ((joinL ls).take p) = j ∧ ∀ c, (joinL ls).set p c = joinL (ls.set j (ls[j].set q c))
 | [], p, hp, _, _ => by simp [joinL] at hp
 | l :: ls, p, hp, h, hne => by
  have hl := h l (List.mem_cons_self ..); by_cases c1 : p < l.length; rotate_left
  ·by_cases c2 : p = l.length; rotate_left
   ·obtain ⟨p', rfl⟩ : ∃ p', p = l.length + 1 + p' := ⟨p - l.length - 1, rae⟩; have e0 : joinL (l :: ls) = (l ++ [10]) ++ joinL ls := by simp [joinL]
    have hp' : p' < (joinL ls).length := by rw [e0] at hp; simp at hp; omega
    have eg : (joinL (l :: ls))[l.length + 1 + p'] = (joinL ls)[p'] := by
     simp only [e0]; rw [List.getElem_append_right rbm]
     congr 1
     simp
    obtain ⟨j, q, hj, hq, g1, g2, g3⟩ := at_line ls p' hp' (fun x hx => h x (List.mem_cons_of_mem _ hx)) (by rw [← eg]; exact hne); refine ⟨j + 1, q, by simp; omega, (by simpa using hq), ?_, ?_, fun c => ?_⟩
    ·rw [eg, ← g1]; simp
    ·rw [e0, List.take_append, dz_, List.take_of_length_le rbm, dz_, cnt10_no hl]; have : l.length + 1 + p' - (l ++ [10]).length = p' := by simp
     rw [this, g2]; show 0 + 1 + j = j + 1
     omega
    ·rw [e0, List.set_append, if_neg rbm]; have : l.length + 1 + p' - (l ++ [10]).length = p' := by simp
     rw [this, g3 c]
     simp [joinL]
   exfalso
   apply hne
   subst c2
   simp [joinL]
  refine ⟨0, p, rav, c1, ?_, ?_, fun c => ?_⟩
  ·simp only [joinL, List.getElem_cons_zero]; rw [List.getElem_append_left c1]
  ·simp only [joinL]; rw [List.take_append_of_le_length rae]; exact cnt10_no (fun e => hl (List.mem_of_mem_take e))
  ·simp only [joinL, List.set_cons_zero, List.getElem_cons_zero]; rw [List.set_append, if_pos c1]
theorem name_l0 (x : ByteArray) (hs : x.size ≤ 10) : ∀ (d k i : Nat), i + d = x.size → al_.l0 k x i = some true → ∀ j : Nat, i ≤ j → j < x.size → (48 ≤ bt x j ∧ bt x j ≤ 122) := by
 intro d
 induction d with
 | zero => intro k i hi _ j h1 h2; omega
 | succ d ih =>
  intro k i hi h j h1 h2
  cases k with
  | zero => simp [al_.l0] at h
  | succ k =>
   simp only [al_.l0] at h; rw [if_pos rae, if_pos rae, wr64s i rae] at h
   have fin : al_.l0 k x ((i + 1 : Nat) : Int) = some true → (48 ≤ bt x i ∧ bt x i ≤ 122) → (48 ≤ bt x j ∧ bt x j ≤ 122) := by
    intro g1 g2
    rcases Nat.eq_or_lt_of_le h1 with e | e
    ·subst e; exact g2
    ·exact ih k (i + 1) rae g1 j rae h2
   by_cases c1 : bt x i < 97; rotate_left
   ·rw [if_neg c1] at h; by_cases c2 : bt x i > 122; rotate_left
    ·rw [if_neg c2] at h; exact fin h ⟨rae, rae⟩
    rw [if_pos c2] at h; by_cases c3 : bt x i < 48; rotate_left
    ·rw [if_neg c3] at h; by_cases c4 : bt x i > 57; rotate_left
     ·omega
     rw [if_pos c4] at h; simp at h
    omega
   rw [if_pos c1] at h; by_cases c2 : bt x i < 48; rotate_left
   ·rw [if_neg c2] at h; by_cases c3 : bt x i > 57; rotate_left
    ·rw [if_neg c3] at h; exact fin h ⟨rae, rae⟩
    rw [if_pos c3] at h; simp at h
   rw [if_pos c2] at h; simp at h
theorem name_ch (x : ByteArray) (k : Nat) (h : al_.f k x = some true) : 1 ≤ x.size ∧ x.size ≤ 10 ∧ ∀ b ∈ x.data.toList, 48 ≤ b.toNat ∧ b.toNat ≤ 122 := by
 have j0t : ∀ k, al_.j0 k x true ≠ some true := by
  intro k
  cases k with
  | zero => simp [al_.j0]
  | succ k => simp [al_.j0]
 simp only [al_.f] at h; by_cases c1 : (x.size : Int) < 1
 ·rw [if_pos c1] at h; exact absurd h (j0t k)
 rw [if_neg c1] at h; by_cases c2 : (x.size : Int) > 10
 ·rw [if_pos c2] at h; exact absurd h (j0t k)
 rw [if_neg c2, if_pos rae] at h
 have hl0 : ∃ k', al_.l0 k' x 0 = some true := by
  by_cases c3 : bt x 0 < 97
  ·rw [if_pos c3] at h; exact absurd h (j0t k)
  rw [if_neg c3] at h
  cases k with
  | zero => simp [al_.j0] at h
  | succ k =>
   simp only [al_.j0] at h
   split at h
   ·simp at h
   ·exact ⟨k, h⟩
 obtain ⟨k', hk'⟩ := hl0; refine ⟨rae, rae, fun b hb => ?_⟩; obtain ⟨i, hi, rfl⟩ := List.mem_iff_getElem.1 hb; have hsz : x.data.toList.length = x.size := by rw [Array.length_toList]; rfl
 have g := name_l0 x rae x.size k' 0 rae hk' i rae rae; have e := bt_in x.data.toList i hi; rw [co_] at e; rw [e] at g
 omega
theorem one_parts {x : Blk} (h : Ev (fun k => aC_.f k [x]) true) (hx : (x.f2.size : Int) ≤ 1048576) : (∀ b ∈ x.f0.data.toList, 48 ≤ b.toNat ∧ b.toNat ≤ 122) ∧ (∀ b ∈ x.f1.data.toList, 48 ≤ b.toNat ∧ b.toNat ≤ 122) ∧ x.f0.size ≤ 10 ∧ x.f1.size ≤ 10 ∧ x.f2.size ≤ 400 ∧ (10 : UInt8) ∉ x.f2.data.toList := by
 have r0 : ab_ [x] 0 = x := rfl; have hsz : x.f2.data.toList.length = x.f2.size := by rw [Array.length_toList]; rfl
 have go : ∀ (d i k : Nat), i + d = x.f2.size → aC_.l0 k [x] i = some true → (∃ k', al_.f k' x.f0 = some true) ∧ (∃ k', al_.f k' x.f1 = some true) ∧ x.f2.size ≤ 400 ∧ (10 : UInt8) ∉ x.f2.data.toList.drop i := by
  intro d
  induction d with
  | zero =>
   intro i k hi g
   cases k with
   | zero => simp [aC_.l0] at g
   | succ k =>
    simp only [aC_.l0, r0] at g; rw [if_pos rav, if_neg rae] at g; obtain ⟨n0, hn0, g⟩ := Option.bind_eq_some_iff.1 g; rw [name_same] at hn0; by_cases c0 : n0 = true; rotate_left
    ·rw [if_neg c0] at g; simp at g
    rw [if_pos c0] at g; obtain ⟨n1, hn1, g⟩ := Option.bind_eq_some_iff.1 g; rw [name_same] at hn1; by_cases c1 : n1 = true; rotate_left
    ·rw [if_neg c1] at g; simp at g
    rw [if_pos c1] at g; have g2 := ode (Option.some.inj g); refine ⟨⟨k, (by rw [hn0, c0])⟩, ⟨k, (by rw [hn1, c1])⟩, rae, ?_⟩; rw [List.drop_of_length_le rae]; exact List.not_mem_nil
  | succ d ih =>
   intro i k hi g
   cases k with
   | zero => simp [aC_.l0] at g
   | succ k =>
    simp only [aC_.l0, r0] at g; rw [if_pos rav, if_pos rae, if_pos rae, wr64s i rae] at g; by_cases c : bt x.f2 i = 10; rotate_left
    ·rw [if_neg c] at g; obtain ⟨g1, g2, g3, g4⟩ := ih (i + 1) k rae g; refine ⟨g1, g2, g3, ?_⟩; rw [List.drop_eq_getElem_cons rae]; intro hm
     rcases List.mem_cons.1 hm with e | e
     ·apply c
      have e2 := bt_in x.f2.data.toList i rae; rw [co_] at e2; rw [e2, ← e]; rfl
     ·exact g4 e
    rw [if_pos c] at g; simp at g
 obtain ⟨K, hK⟩ := h; have hk := hK K (Nat.le_refl _); simp only [aC_.f] at hk; obtain ⟨⟨k1, g1⟩, ⟨k2, g2⟩, g3, g4⟩ := go x.f2.size 0 K rae hk; obtain ⟨_, a1, a2⟩ := name_ch x.f0 k1 g1; obtain ⟨_, b1, b2⟩ := name_ch x.f1 k2 g2; exact ⟨a2, b2, a1, b1, g3, (by simpa using g4)⟩
def restL (x : Blk) : List UInt8 := x.f0.data.toList ++ 32 :: (x.f1.data.toList ++ 32 :: x.f2.data.toList)
def fiveL (Y : List UInt8) : List UInt8 := (five ((crcN 65535 Y : Nat) : Int)).data.toList
def lineL (x : Blk) : List UInt8 := fiveL (restL x) ++ 32 :: restL x
theorem fiveL_len (Y : List UInt8) : (fiveL Y).length = 5 := by
 have h := crcN_lt Y (show 65535 < 65536 by decide); have := five_len ((crcN 65535 Y : Nat) : Int) rae rae; unfold fiveL; rw [Array.length_toList]; exact this
theorem dec_ch (u : Nat) : ∀ b ∈ Go.Lib.decDigits u, 48 ≤ b.toNat ∧ b.toNat ≤ 57 := by
 induction u using Nat.strongRecOn with
 | _ u ih =>
  intro b hb; rw [Go.Lib.decDigits] at hb
  split at hb
  ·rename_i h; have e := List.mem_singleton.1 hb; rw [e, UInt8.toNat_ofNat_of_lt' (show 48 + u < 256 by omega)]
   omega
  ·rename_i h
   rcases List.mem_append.1 hb with g | g
   ·exact ih (u / 10) rae b g
   ·have e := List.mem_singleton.1 g; rw [e, UInt8.toNat_ofNat_of_lt' (show 48 + u % 10 < 256 by omega)]
    omega
theorem fiveL_ch (Y : List UInt8) : ∀ b ∈ fiveL Y, 48 ≤ b.toNat ∧ b.toNat ≤ 57 := by
 intro b hb; unfold fiveL five at hb; rw [ck_, Go.Lib.itoa_nonneg] at hb
 rcases List.mem_append.1 hb with g | g
 ·rw [List.eq_of_mem_replicate g]; decide
 ·exact dec_ch _ b g
theorem no_of {l : List UInt8} {c : UInt8} (hc : c.toNat < 48) (h : ∀ b ∈ l, 48 ≤ b.toNat) : c ∉ l := fun hm => by have := h c hm; omega
theorem rest_no10 {x : Blk} (h : Ev (fun k => aC_.f k [x]) true) (hx : (x.f2.size : Int) ≤ 1048576) : (10 : UInt8) ∉ restL x := by
 obtain ⟨a, b, _, _, _, d⟩ := one_parts h hx; have a1 : (10 : UInt8) ∉ x.f0.data.toList := no_of rah (fun y hy => (a y hy).1); have b1 : (10 : UInt8) ∉ x.f1.data.toList := no_of rah (fun y hy => (b y hy).1); unfold restL; simp only [List.mem_append, List.mem_cons, not_or]; exact ⟨a1, rah, b1, rah, d⟩
theorem line_no10 {x : Blk} (h : Ev (fun k => aC_.f k [x]) true) (hx : (x.f2.size : Int) ≤ 1048576) : (10 : UInt8) ∉ lineL x := by
 have r := rest_no10 h hx; have f : (10 : UInt8) ∉ fiveL (restL x) := no_of rah (fun y hy => (fiveL_ch _ y hy).1); unfold lineL; simp only [List.mem_append, List.mem_cons, not_or]; exact ⟨f, rah, r⟩
theorem dw_ {x : Blk} (h : Ev (fun k => aC_.f k [x]) true) (hx : (x.f2.size : Int) ≤ 1048576) : (restL x).length ≤ 422 := by
 obtain ⟨_, _, h0, h1, h2, _⟩ := one_parts h hx; have e0 : x.f0.data.toList.length = x.f0.size := by rw [Array.length_toList]; rfl
 have e1 : x.f1.data.toList.length = x.f1.size := by rw [Array.length_toList]; rfl
 have e2 : x.f2.data.toList.length = x.f2.size := by rw [Array.length_toList]; rfl
 unfold restL; simp only [List.length_append, List.length_cons]
 omega
def hdrL (n : Nat) : List UInt8 := [97, 114, 99, 104, 105, 118, 101, 32] ++ Go.Lib.decDigits n
theorem hdr_no10 (n : Nat) : (10 : UInt8) ∉ hdrL n := by
 have f : (10 : UInt8) ∉ Go.Lib.decDigits n := no_of rah (fun y hy => (dec_ch _ y hy).1); unfold hdrL; rw [List.mem_append]; exact fun e => e.elim rah f
def arcL (m : List Blk) : List (List UInt8) := hdrL m.length :: m.map lineL
theorem line_val {x : Blk} (h : Ev (fun k => aC_.f k [x]) true) (hx : (x.f2.size : Int) ≤ 1048576) : Ev (fun k => dm_.f k [x]) (Bs (lineL x ++ [10])) := by
 obtain ⟨_, _, h0, h1, h2, _⟩ := one_parts h hx; have hl := dw_ h hx; have c1 := crc_val (restL x) rae; have hlt := crcN_lt (restL x) (show 65535 < 65536 by decide); have f1 := five_spec ((crcN 65535 (restL x) : Nat) : Int) rae rae; have f5 := five_len ((crcN 65535 (restL x) : Nat) : Int) rae rae; have r0 : ab_ [x] 0 = x := rfl
 have er : (((x.f0 ++ (⟨#[32]⟩ : ByteArray)) ++ x.f1) ++ (⟨#[32]⟩ : ByteArray)) ++ x.f2 = Bs (restL x) := by
  rw [← co_ x.f0, ← co_ x.f1, ← co_ x.f2, show (⟨#[32]⟩ : ByteArray) = Bs [32] from rfl, cy_, cy_, cy_, cy_]
  congr 1
  simp [restL]
 have el : ((five ((crcN 65535 (restL x) : Nat) : Int) ++ (⟨#[32]⟩ : ByteArray)) ++ Bs (restL x)) ++ (⟨#[10]⟩ : ByteArray) = Bs (lineL x ++ [10]) := by
  rw [← co_ (five _), show (⟨#[32]⟩ : ByteArray) = Bs [32] from rfl, show (⟨#[10]⟩ : ByteArray) = Bs [10] from rfl, cy_, cy_, cy_]
  congr 1
  simp [lineL, fiveL]
 simp only [dm_.f, r0, er]; refine Ev_t rav (Ev_t rae (Ev_t rae (Ev_t rae (Ev_t rae (Ev_b c1 (Ev_b f1 ?_)))))); rw [el]; exact Ev_t rae (Ev_t rae (Ev_t rae (Ev_n rfl)))
theorem save_val (m : List Blk) (hl : m.length ≤ 32) (hok : Ev (fun k => br_.f k m) true) (h : ∀ y ∈ m, (y.f2.size : Int) ≤ 1048576 ∧ Ev (fun k => aC_.f k [y]) true) : Ev (fun k => cK_.f k m) (Bs (joinL (arcL m)), 0) := by
 have go : ∀ (R P : List Blk) (a : List UInt8), P ++ R = m → a.length ≤ 1000 + P.length * 1000 → Ev (fun k => bY_.l0 k m (Bs a) (P.length : Int)) (Bs (a ++ joinL (R.map lineL))) := by
  intro R
  induction R with
  | nil =>
   intro P a hP ha; refine aO_ ?_; simp only [bY_.l0]; have : P.length = m.length := by rw [← hP]; simp
   exact Ev_f rae (Ev_n (by simp [joinL]))
  | cons x R ih =>
   intro P a hP ha; have hpl : m.length = P.length + 1 + R.length := by rw [← hP]; simp; omega
   obtain ⟨x1, x2⟩ := h x (by rw [← hP]; simp); have hrd : ab_ m (P.length : Int) = x := by subst hP; unfold ab_; exact getD_at P R _ x _ rfl
   have hv := line_val x2 x1; have hrl := dw_ x2 x1; have h5 := fiveL_len (restL x); have hll : (lineL x ++ [10]).length ≤ 1000 := by unfold lineL; simp only [List.length_append, List.length_cons, List.length_nil]; omega
   have nx := ih (P ++ [x]) (a ++ (lineL x ++ [10])) (by simpa using hP) (by rw [List.length_append]; have := (show (P ++ [x]).length = P.length + 1 by simp); omega); rw [show (P ++ [x]).length = P.length + 1 by simp] at nx; refine aO_ ?_; simp only [bY_.l0]; rw [hrd, wr64s _ rae]; refine Ev_t rae (Ev_t rae (Ev_b hv (Ev_t (by rw [bP_, bP_]; omega) ?_))); rw [cy_]; have e : a ++ joinL ((x :: R).map lineL) = a ++ (lineL x ++ [10]) ++ joinL (R.map lineL) := by simp [joinL]
   rw [e]; exact nx
 simp only [cK_.f]; refine Ev_b hok (Ev_t rfl (Ev_b (a := Bs (joinL (arcL m))) ?_ (Ev_n rfl))); simp only [bY_.f]; have hd := dec_ev (m.length : Int) rae rae
 have hdl : (Go.Lib.decDigits m.length).length ≤ 21 := by
  have := Go.Lib.itoa_length_le (m.length : Int) rae rae; rw [Go.Lib.itoa_nonneg] at this; exact this
 have hi : its (m.length : Int) = Bs (Go.Lib.decDigits m.length) := by unfold its; rw [Go.Lib.itoa_nonneg]
 rw [hi] at hd
 have e0 : ((⟨#[97, 114, 99, 104, 105, 118, 101, 32]⟩ : ByteArray) ++ Bs (Go.Lib.decDigits m.length)) ++ (⟨#[10]⟩ : ByteArray) = Bs (hdrL m.length ++ [10]) := by
  rw [show (⟨#[97, 114, 99, 104, 105, 118, 101, 32]⟩ : ByteArray) = Bs [97, 114, 99, 104, 105, 118, 101, 32] from rfl, show (⟨#[10]⟩ : ByteArray) = Bs [10] from rfl, cy_, cy_]; rfl
 refine Ev_b hd (Ev_t ra3 (Ev_t ra3 ?_)); rw [e0]; have g := go m [] (hdrL m.length ++ [10]) rfl (by unfold hdrL; simp only [List.length_append, List.length_cons, List.length_nil]; omega); have e : hdrL m.length ++ [10] ++ joinL (m.map lineL) = joinL (arcL m) := by simp [arcL, joinL]
 rw [e] at g; exact g
theorem arc_no10 (m : List Blk) (h : ∀ y ∈ m, (y.f2.size : Int) ≤ 1048576 ∧ Ev (fun k => aC_.f k [y]) true) : ∀ l ∈ arcL m, (10 : UInt8) ∉ l := by
 intro l hl; unfold arcL at hl
 rcases List.mem_cons.1 hl with e | e
 ·rw [e]; exact hdr_no10 _
 ·obtain ⟨x, hx, rfl⟩ := List.mem_map.1 e; exact line_no10 (h x hx).2 (h x hx).1
def u8s (c : List Int) : Prop := (c.length : Int) ≤ 1048576 ∧ ∀ x ∈ c, 0 ≤ x ∧ x < 256
theorem u64w (n : Int) : IntKind.u64.wrap n = n % 18446744073709551616 := by simp [IntKind.wrap, IntKind.bits, IntKind.signed]
theorem p64 : (2 : Int) ^ 64 = 18446744073709551616 := by decide
theorem u64wr (n : Int) (h0 : 0 ≤ n) (h1 : n < 2 ^ 64) : IntKind.u64.wrap n = n := by
 rw [p64] at h1; rw [u64w]
 omega
theorem and255 (x : Int) (h : 0 ≤ x) (h2 : x < 18446744073709551616) : Go.bits .and .u64 x 255 = x % 256 := by
 have h3 : x < 2 ^ 64 := by rw [p64]; exact h2
 exact bits_mask .u64 64 rah u64wr 8 rah x h h3
theorem high_byte (z : Int) : 0 ≤ wrap64 (Go.bits .and .u64 (IntKind.u64.wrap z / 1099511627776) 255) ∧ wrap64 (Go.bits .and .u64 (IntKind.u64.wrap z / 1099511627776) 255) < 256 := by
 rw [u64w, and255 _ rae rae, wr64 rae rae]
 omega
theorem next_ok (c : List Int) (hc : u8s c) (a s : Int) (h0 : 0 ≤ a) (h1 : a < 4611686018427387904) : ∃ v s', bO_.f c a s = some (v, a + 1, s') ∧ 0 ≤ v ∧ v < 256 := by
 have ha : wrap64 (a + 1) = a + 1 := wr64 rae rae; unfold bO_.f; rw [ha]; by_cases c1 : a < (c.length : Int); rotate_left
 ·rw [if_neg c1]; rw [if_neg rae]; have hb := high_byte ((IntKind.u64.wrap ((IntKind.u64.wrap (s * 6364136223846793005)))) + 1442695040888963407); exact ⟨_, _, rfl, hb.1, hb.2⟩
 rw [if_pos c1, if_pos h0, if_pos rae]
 have hv : 0 ≤ rd c a ∧ rd c a < 256 := by
  unfold rd; have hi : a.toNat < c.length := by omega
  rw [List.getD_eq_getElem?_getD, List.getElem?_eq_getElem hi]; exact hc.2 _ (List.getElem_mem hi)
 rw [wr64 (x := rd c a) rae rae]; exact ⟨_, _, rfl, hv.1, hv.2⟩
theorem cV_ (c : List Int) (hc : u8s c) (a s n : Int) (h0 : 0 ≤ a) (h1 : a < 4611686018427387000) (hn : n < 65536) : ∃ v a' s', ag_.f c a s n = some (v, a', s') ∧ a ≤ a' ∧ a' ≤ a + 2 ∧ 0 ≤ v ∧ (0 < n → v < n) := by
 unfold ag_.f; by_cases c1 : n ≤ 1; rotate_left
 ·rw [if_neg c1]; obtain ⟨v, s1, e1, v0, v1⟩ := next_ok c hc a s h0 rae; rw [e1]; simp only [ob_]; by_cases c2 : n > 200; rotate_left
  ·rw [if_neg c2, if_neg rae]; refine ⟨_, _, _, rfl, rae, rae, Int.tmod_nonneg _ rae, fun _ => Int.tmod_lt_of_pos _ rae⟩
  rw [if_pos c2]; obtain ⟨v2, s2, e2, w0, w1⟩ := next_ok c hc (a + 1) s1 rae rae; rw [e2]; simp only [ob_]; rw [if_neg rae, wr64 (x := v * 256) rae rae, wr64 rae rae]; refine ⟨_, _, _, rfl, rae, rae, Int.tmod_nonneg _ rae, fun _ => Int.tmod_lt_of_pos _ rae⟩
 rw [if_pos c1]; exact ⟨0, a, s, rfl, rae, rae, rae, rae⟩
theorem text_ok (c : List Int) (hc : u8s c) (a s : Int) (l : List ByteArray) (h0 : 0 ≤ a) (h1 : a < 4611686018427387000) (hl : 0 < l.length) (hl2 : (l.length : Int) < 65536) : ∃ v a' s', aY_.f c a s l = some (v, a', s') ∧ a ≤ a' ∧ a' ≤ a + 2 ∧ v ∈ l := by
 unfold aY_.f; obtain ⟨v, a', s', e, h2, h3, v0, v1⟩ := cV_ c hc a s (l.length : Int) h0 h1 hl2; have hv := v1 rae; rw [e]; simp only [ob_]; rw [if_pos v0, if_pos hv]; refine ⟨_, _, _, rfl, h2, h3, ?_⟩; unfold rdOf; have hi : v.toNat < l.length := by omega
 rw [List.getD_eq_getElem?_getD, List.getElem?_eq_getElem hi]; exact List.getElem_mem hi
theorem among_ok (c : List Int) (hc : u8s c) (a s : Int) (l : List Int) (h0 : 0 ≤ a) (h1 : a < 4611686018427387000) (hl : 0 < l.length) (hl2 : (l.length : Int) < 65536) : ∃ v a' s', ci_.f c a s l = some (v, a', s') ∧ a ≤ a' ∧ a' ≤ a + 2 ∧ v ∈ l := by
 unfold ci_.f; obtain ⟨v, a', s', e, h2, h3, v0, v1⟩ := cV_ c hc a s (l.length : Int) h0 h1 hl2; have hv := v1 rae; rw [e]; simp only [ob_]; rw [if_pos v0, if_pos hv]; refine ⟨_, _, _, rfl, h2, h3, ?_⟩; unfold rd; have hi : v.toNat < l.length := by omega
 rw [List.getD_eq_getElem?_getD, List.getElem?_eq_getElem hi]; exact List.getElem_mem hi
theorem one_ok (c : List Int) (hc : u8s c) (a s n : Int) (h0 : 0 ≤ a) (h1 : a < 4611686018427387000) (hn : n < 65536) : ∃ v a' s', bH_.f c a s n = some (v, a', s') ∧ a ≤ a' ∧ a' ≤ a + 2 := by
 unfold bH_.f; obtain ⟨v, a', s', e, h2, h3, v0, v1⟩ := cV_ c hc a s n h0 h1 hn; rw [e]; exact ⟨_, _, _, rfl, h2, h3⟩
theorem strOf_size (l : List Int) : (strOfNums l).size = l.length := by
 unfold strOfNums; show (List.toArray _).size = _
 simp
theorem word_loop (c : List Int) (hc : u8s c) : ∀ (n : Nat) (x : List Int) (a s : Int), n < 60000 → x.length + n ≤ 60000 → 0 ≤ a → a + n < 4611686018427387000 → ∃ v a' s', Ev (fun k => bc_.l0 k x n c a s) (v, a', s') ∧ a ≤ a' ∧ a' ≤ a + n ∧ v.size = x.length + n
 | 0, x, a, s, _, _, _, _ => ⟨strOfNums x, a, s, by refine aO_ ?_; simp only [bc_.l0]; exact Ev_f rav (Ev_n rfl), rae, rae, by rw [strOf_size]; rfl⟩
 | n + 1, x, a, s, hn, hx, h0, h1 => by
  obtain ⟨v, s1, e1, v0, v1⟩ := next_ok c hc a s h0 rae; obtain ⟨v2, a', s', h2, h3, h4, h5⟩ := word_loop c hc n (x ++ [v % 256]) (a + 1) s1 rae rbk rae rae; refine ⟨v2, a', s', ?_, rae, rae, by rw [h5]; simp; omega⟩; refine aO_ ?_; simp only [bc_.l0]; refine Ev_t rae (Ev_b (Ev_c e1) (Ev_t rae ?_)); rw [wr64 rae rae, show (((n + 1 : Nat) : Int) - 1) = (n : Int) by omega]; exact h2
theorem word_ok (c : List Int) (hc : u8s c) (a s n : Int) (h0 : 0 ≤ a) (h1 : a < 4611686018427300000) (hn : n < 60000) (hn0 : 0 < n) : ∃ v a' s', Ev (fun k => bc_.f k c a s n) (v, a', s') ∧ a ≤ a' ∧ a' ≤ a + 2 + n ∧ (v.size : Int) < n := by
 obtain ⟨v, a1, s1, e, h2, h3, v0, v1⟩ := cV_ c hc a s n h0 rae rae; have hv := v1 hn0; obtain ⟨v2, a', s', h4, h5, h6, h7⟩ := word_loop c hc v.toNat [] a1 s1 rae rbk rae rae; refine ⟨v2, a', s', ?_, rae, rae, by rw [h7]; simp; omega⟩; unfold bc_.f; refine Ev_b (Ev_c e) ?_; simp only []; rw [show v = ((v.toNat : Nat) : Int) by omega]; exact h4
theorem max_f (a b : Int) : ∃ v, cE_.f a b = some v ∧ ((a ≤ b ∧ v = b) ∨ (b ≤ a ∧ v = a)) := by
 unfold cE_.f; by_cases h : a > b; rotate_left
 ·rw [if_neg h]; exact ⟨b, rfl, Or.inl ⟨rae, rfl⟩⟩
 rw [if_pos h]; exact ⟨a, rfl, Or.inr ⟨rae, rfl⟩⟩
theorem min_f (a b : Int) : ∃ v, cd_.f a b = some v ∧ ((a ≤ b ∧ v = a) ∨ (b ≤ a ∧ v = b)) := by
 unfold cd_.f; by_cases h : a < b; rotate_left
 ·rw [if_neg h]; exact ⟨b, rfl, Or.inr ⟨rae, rfl⟩⟩
 rw [if_pos h]; exact ⟨a, rfl, Or.inl ⟨rae, rfl⟩⟩
theorem name_of (i : Int) (h0 : 0 ≤ i) (h1 : i ≤ 9) : ∃ t, cB_.f = some t ∧ i < t.length ∧ spi (rdOf be_ t i).toList = i ∧ (rdOf be_ t i).size ≤ 8 := by
 unfold cB_.f; have hi : i = 0 ∨ i = 1 ∨ i = 2 ∨ i = 3 ∨ i = 4 ∨ i = 5 ∨ i = 6 ∨ i = 7 ∨ i = 8 ∨ i = 9 := by omega
 rcases hi with rfl | rfl | rfl | rfl | rfl | rfl | rfl | rfl | rfl | rfl <;> exact ⟨_, rfl, rah, (by decide +kernel), (by decide +kernel)⟩
theorem l07Draw_ok (c : List Int) (hc : u8s c) (a s : Int) (h0 : 0 ≤ a) (h1 : a < 4611686018427380000) : ∃ n sh g a' s', bm_.f c a s = some (n, sh, g, a', s') ∧ a ≤ a' ∧ a' ≤ a + 8 ∧ n.size ≤ 8 ∧ vVen n.toList sh g = true := by
 obtain ⟨k, a1, s1, e1, p1, q1, k0, k1⟩ := cV_ c hc a s 10 h0 rae rae; have hk := k1 rae; obtain ⟨t, et, t1, t2, t3, t4, t5⟩ := shade_of k k0 rae; obtain ⟨m, em, m1, m2, m3⟩ := name_of k k0 rae; obtain ⟨d, a2, s2, e2, p2, q2, d0, d1⟩ := cV_ c hc a1 s1 21 rae rae rae; have hd := d1 rae; obtain ⟨g, a3, s3, e3, p3, q3, g0, g1⟩ := cV_ c hc a2 s2 180 rae rae rae; have hg := g1 rae; obtain ⟨r, a4, s4, e4, p4, q4, hr⟩ := among_ok c hc a3 s3 [g, g, 0, 90, 45] rae rae rav rav; obtain ⟨x, ex, hx⟩ := max_f 0 (wrap64 (wrap64 (rd (rd_L4 t k) 0 + d) - 10)); obtain ⟨y, ey, hy⟩ := min_f 100 x; have w1 : wrap64 (wrap64 (rd (rd_L4 t k) 0 + d) - 10) = rd shades k + d - 10 := by rw [t3, wr64 (x := rd shades k + d) rae rae, wr64 rae rae]
 rw [w1] at hx; refine ⟨rdOf be_ m k, y, r, a4, s4, ?_, rae, rae, m3, ?_⟩
 ·unfold bm_.f; rw [e1]; simp only [ob_]; rw [et]; simp only [ob_]; rw [if_pos k0, if_pos t1, if_pos rae, e2]; simp only [ob_]; rw [em]; simp only [ob_]; rw [if_pos m1, ex]; simp only [ob_]; rw [ey]; simp only [ob_]; rw [e3]; simp only [ob_]; rw [e4]; rfl
 ·have hr2 : 0 ≤ r ∧ r ≤ 179 := by
   simp only [List.mem_cons, List.not_mem_nil, or_false] at hr
   omega
  unfold vVen; rw [m2]; simp only [Bool.and_eq_true, decide_eq_true_eq]
  omega
def dbox (b : S107) (w h : Int) : Prop := 0 ≤ b.f0 ∧ 0 ≤ b.f1 ∧ 1 ≤ b.f2 ∧ 1 ≤ b.f3 ∧ b.f0 + b.f2 ≤ w ∧ b.f1 + b.f3 ≤ h
theorem box_draw (c : List Int) (hc : u8s c) (a s w h : Int) (h0 : 0 ≤ a) (h1 : a < 4611686018427380000) (hw : 100 ≤ w ∧ w < 1000) (hh : 100 ≤ h ∧ h < 1000) : ∃ x y p q a' s', cI_.f c a s w h = some (x, y, p, q, a', s') ∧ a ≤ a' ∧ a' ≤ a + 8 ∧ dbox (⟨x, y, p, q⟩ : S107) w h := by
 obtain ⟨x, a1, s1, e1, p1, q1, x0, x1⟩ := cV_ c hc a s (w - 2) h0 rae rae; have hx := x1 rae; obtain ⟨y, a2, s2, e2, p2, q2, y0, y1⟩ := cV_ c hc a1 s1 (h - 2) rae rae rae; have hy := y1 rae; obtain ⟨m, em, hm⟩ := min_f 60 (w - x); obtain ⟨p, a3, s3, e3, p3, q3, z0, z1⟩ := cV_ c hc a2 s2 m rae rae rae; have hp := z1 rae; obtain ⟨n, en, hn⟩ := min_f 60 (h - y); obtain ⟨q, a4, s4, e4, p4, q4, u0, u1⟩ := cV_ c hc a3 s3 n rae rae rae; have hq := u1 rae; refine ⟨x, y, 1 + p, 1 + q, a4, s4, ?_, rae, rae, by unfold dbox; dsimp only; omega⟩; unfold cI_.f; rw [wr64 (x := w - 2) rae rae, wr64 (x := h - 2) rae rae, e1]; simp only [ob_]; rw [e2]; simp only [ob_]; rw [wr64 (x := w - x) rae rae, em]; simp only [ob_]; rw [e3]; simp only [ob_]; rw [wr64 (x := h - y) rae rae, en]; simp only [ob_]; rw [e4]; simp only [ob_]; rw [wr64 (x := 1 + p) rae rae, wr64 (x := 1 + q) rae rae]
theorem boxes_loop (c : List Int) (hc : u8s c) (id fl nm : ByteArray) (nu sh g w h : Int) (hw : 100 ≤ w ∧ w < 1000) (hh : 100 ≤ h ∧ h < 1000) : ∀ (n : Nat) (a s : Int) (bs : List S107), bs.length + n ≤ 3 → 0 ≤ a → a + 8 * n < 4611686018427380000 → (∀ b ∈ bs, dbox b w h) →
  ∃ bs' a' s', Ev (fun k => aN_.l0 k n c a s id fl nu nm sh g w h bs) (id, fl, nu, nm, sh, g, w, h, bs', a', s') ∧ a ≤ a' ∧ a' ≤ a + 8 * n ∧ bs'.length ≤ 3 ∧ ∀ b ∈ bs', dbox b w h
 | 0, a, s, bs, hl, h0, h1, hb => ⟨bs, a, s, by refine aO_ ?_; simp only [aN_.l0]; exact Ev_f rav (Ev_n rfl), rae, rae, rae, hb⟩
 | n + 1, a, s, bs, hl, h0, h1, hb => by
  obtain ⟨x, y, p, q, a1, s1, e1, p1, q1, hd⟩ := box_draw c hc a s w h h0 rae hw hh; obtain ⟨bs', a', s', h2, h3, h4, h5, h6⟩ := boxes_loop c hc id fl nm nu sh g w h hw hh n a1 s1 (bs ++ [(⟨x, y, p, q⟩ : S107)]) rbk rae rae (by
   intro b hb2
   rcases List.mem_append.1 hb2 with g | g
   ·exact hb b g
   ·rw [List.mem_singleton.1 g]; exact hd)
  refine ⟨bs', a', s', ?_, rae, rae, h5, h6⟩; refine aO_ ?_; simp only [aN_.l0]; refine Ev_t rae (Ev_b (Ev_c e1) (Ev_t rae ?_)); rw [wr64 rae rae, show (((n + 1 : Nat) : Int) - 1) = (n : Int) by omega]; exact h2
def dleaf (x : S46) : Prop := x.f1.size = 2 ∧ (x.f1 = (⟨#[102, 49]⟩ : ByteArray) ∨ x.f1 = (⟨#[102, 50]⟩ : ByteArray)) ∧ (0 ≤ x.f2 ∧ x.f2 < 20) ∧ x.f3.f0.size ≤ 8 ∧ vVen x.f3.f0.toList x.f3.f1 x.f3.f2 = true ∧ (100 ≤ x.f4 ∧ x.f4 < 1000) ∧ (100 ≤ x.f5 ∧ x.f5 < 1000) ∧ x.f6.length ≤ 3 ∧ ∀ b ∈ x.f6, dbox b x.f4 x.f5
theorem leaf_draw (c : List Int) (hc : u8s c) (a s : Int) (id : ByteArray) (h0 : 0 ≤ a) (h1 : a < 4611686018427300000) : ∃ (x : S46) (a' s' : Int), Ev (fun k => aN_.f k c a s id) (x.f0, x.f1, x.f2, x.f3.f0, x.f3.f1, x.f3.f2, x.f4, x.f5, x.f6, a', s') ∧ a ≤ a' ∧ a' ≤ a + 50 ∧ x.f0 = id ∧ dleaf x := by
 obtain ⟨fl, a1, s1, e1, p1, q1, hf⟩ := text_ok c hc a s [(⟨#[102, 49]⟩ : ByteArray), (⟨#[102, 50]⟩ : ByteArray)] h0 rae rav rav; obtain ⟨nu, a2, s2, e2, p2, q2, n0, n1⟩ := cV_ c hc a1 s1 20 rae rae rae; have hn := n1 rae; obtain ⟨nm, sh, g, a3, s3, e3, p3, q3, z3, hv⟩ := l07Draw_ok c hc a2 s2 rae rae; obtain ⟨w, a4, s4, e4, p4, q4, w0, w1⟩ := cV_ c hc a3 s3 900 rae rae rae; have hw := w1 rae; obtain ⟨h, a5, s5, e5, p5, q5, v0, v1⟩ := cV_ c hc a4 s4 900 rae rae rae; have hh := v1 rae; obtain ⟨n, a6, s6, e6, p6, q6, m0, m1⟩ := cV_ c hc a5 s5 4 rae rae rae; have hm := m1 rae; obtain ⟨bs, a7, s7, h7, p7, q7, l7, b7⟩ := boxes_loop c hc id fl nm nu sh g (100 + w) (100 + h) rae rae n.toNat a6 s6 [] rbk rae rae rav; refine ⟨(⟨id, fl, nu, (⟨nm, sh, g⟩ : S43), 100 + w, 100 + h, bs⟩ : S46), a7, s7, ?_, rae, rae, rfl, ?_⟩
 ·simp only [aN_.f]; refine Ev_b (Ev_c e1) (Ev_b (Ev_c e2) (Ev_b (Ev_c e3) (Ev_b (Ev_c e4) (Ev_b (Ev_c e5) (Ev_b (Ev_c e6) ?_))))); dsimp only; rw [wr64 (x := 100 + w) rae rae, wr64 (x := 100 + h) rae rae]; have hn2 : ((n.toNat : Nat) : Int) = n := by omega
  rw [hn2] at h7; exact h7
 ·simp only [List.mem_cons, List.not_mem_nil, or_false] at hf; unfold dleaf; refine ⟨?_, hf, ⟨n0, hn⟩, z3, hv, ⟨by dsimp only; omega, by dsimp only; omega⟩, ⟨by dsimp only; omega, by dsimp only; omega⟩, l7, b7⟩
  rcases hf with rfl | rfl <;> rfl
theorem nmS (n : Int) (h0 : -1000000 ≤ n) (h1 : n ≤ 1000000) : nmOk n := by unfold nmOk; omega
theorem LT_size (l : List Int) (hl : l.length ≤ 64) (hb : ∀ x ∈ l, nmOk x) : (LT_ l).size ≤ 1408 := by
 unfold LT_
 split
 ·rw [bP_]; simp
 ·rw [bP_]; exact itl_len l hl hb
theorem vtext_ok (v : S43) (hs : v.f0.size ≤ 1000) (hv : vVen v.f0.toList v.f1 v.f2 = true) : ∃ t, Ev (fun k => ca_.f k [v]) t ∧ t.size ≤ 1100 := by
 have hr : (0 ≤ v.f1 ∧ v.f1 ≤ 100) ∧ 0 ≤ v.f2 ∧ v.f2 ≤ 179 := by
  unfold vVen at hv; simp only [Bool.and_eq_true, decide_eq_true_eq] at hv; exact ⟨hv.2.1, hv.2.2.2⟩
 have r1 : cg_ [v] 0 = v := rfl; have d1 := dec_ev v.f1 rae rae; have d2 := dec_ev v.f2 rae rae; have s1 := its_size v.f1 (nmS _ rae rae); have s2 := its_size v.f2 (nmS _ rae rae); refine ⟨((((v.f0 ++ (⟨#[32]⟩ : ByteArray)) ++ its v.f1) ++ (⟨#[32]⟩ : ByteArray)) ++ its v.f2), ?_, ?_⟩
 ·simp only [ca_.f, r1]; exact Ev_t rav (Ev_t rae (Ev_b d1 (Ev_t rae (Ev_t rae (Ev_b d2 (Ev_t rae (Ev_n rfl)))))))
 ·have q1 : (⟨#[32]⟩ : ByteArray).size = 1 := rfl; simp only [ByteArray.size_append]
  omega
theorem ltext_ok (x : S46) (hd : dleaf x) (hid : x.f0.size ≤ 1000) : ∃ t, Ev (fun k => bn_.f k [x]) t ∧ t.size ≤ 20000 := by
 obtain ⟨z1, _, n2, z3, vv, n4, n5, l6, hb⟩ := hd; have r0 : aa_ [x] 0 = x := rfl; have d2 := dec_ev x.f2 rae rae; have d4 := dec_ev x.f4 rae rae; have d5 := dec_ev x.f5 rae rae; have s2 := its_size x.f2 (nmS _ rae rae); have s4 := its_size x.f4 (nmS _ rae rae); have s5 := its_size x.f5 (nmS _ rae rae); obtain ⟨tv, hv, sv⟩ := vtext_ok x.f3 rae vv; have q1 : (⟨#[47]⟩ : ByteArray).size = 1 := rfl; have q2 : (⟨#[120]⟩ : ByteArray).size = 1 := rfl; have hr : ∀ i (hi : i < x.f6.length), aF_ x.f6 (i : Int) = x.f6[i] := fun i hi => by unfold aF_; exact getD_in x.f6 _ i hi
 have go : ∀ (d i : Nat) (acc : ByteArray), i + d = x.f6.length → acc.size ≤ 3000 + 1500 * i → ∃ t, Ev (fun k => bn_.l0 k [x] acc i) t ∧ t.size ≤ 20000 := by
  intro d
  induction d with
  | zero =>
   intro i acc h ha; refine ⟨acc, aO_ ?_, rae⟩; simp only [bn_.l0, r0]; exact Ev_t rav (Ev_f rae (Ev_n rfl))
  | succ d ih =>
   intro i acc h ha; have hi : i < x.f6.length := by omega
   have hbx := hb _ (List.getElem_mem hi)
   have hn : ∀ n ∈ [x.f6[i].f0, x.f6[i].f1, x.f6[i].f2, x.f6[i].f3], nmOk n := by
    intro n hn; unfold dbox at hbx; simp only [List.mem_cons, List.not_mem_nil, or_false] at hn
    rcases hn with rfl | rfl | rfl | rfl <;> exact nmS _ rae rae
   have t1 := list_spec [x.f6[i].f0, x.f6[i].f1, x.f6[i].f2, x.f6[i].f3] rav hn; have sz := LT_size [x.f6[i].f0, x.f6[i].f1, x.f6[i].f2, x.f6[i].f3] rav hn; obtain ⟨t, h1, h2⟩ := ih (i + 1) (acc ++ ((⟨#[47]⟩ : ByteArray) ++ LT_ [x.f6[i].f0, x.f6[i].f1, x.f6[i].f2, x.f6[i].f3])) rae (by simp only [ByteArray.size_append]; omega); refine ⟨t, aO_ ?_, h2⟩; simp only [bn_.l0, r0]; rw [hr i hi, wr64s i rae]; exact Ev_t rav (Ev_t rae (Ev_t rae (Ev_b t1 (Ev_t rae (Ev_t rae h1)))))
 obtain ⟨t, h1, h2⟩ := go x.f6.length 0 ((((((((((x.f0 ++ (⟨#[47]⟩ : ByteArray)) ++ x.f1) ++ (⟨#[47]⟩ : ByteArray)) ++ its x.f2) ++ (⟨#[47]⟩ : ByteArray)) ++ tv) ++ (⟨#[47]⟩ : ByteArray)) ++ its x.f4) ++ (⟨#[120]⟩ : ByteArray)) ++ its x.f5) rae (by simp only [ByteArray.size_append]; omega); refine ⟨t, ?_, h2⟩; simp only [bn_.f, r0]; exact Ev_t rav (Ev_t rae (Ev_t rae (Ev_t rae (Ev_b d2 (Ev_t rae (Ev_t rae (Ev_b hv (Ev_t rae (Ev_t rae (Ev_b d4 (Ev_t rae (Ev_t rae (Ev_b d5 (Ev_t rae h1))))))))))))))
abbrev lessB (x y : Blk) : Prop := cB (ckB x) (ckB y) < 0
theorem rsg_pw {l : List Blk} (h : l.Pairwise lessB) (t : List UInt8 × List UInt8) : Rsg (fun x => cB (ckB x) t) l := by
 intro i j hi hj h0; exact cB_ord.step ((List.pairwise_iff_getElem.1 h) i j rae hj hi) h0
theorem ahead_lt {l : List Blk} {t : List UInt8 × List UInt8} {x : Blk} (h : x ∈ l.take (plc (fun x => cB (ckB x) t) l)) : cB (ckB x) t < 0 := by
 obtain ⟨i, hi, rfl⟩ := List.mem_iff_getElem.1 h; rw [List.getElem_take]; exact plc_lt (fun x => cB (ckB x) t) l i (by simp at hi; omega) (by simp at hi; omega)
theorem behind_gt {l : List Blk} {t : List UInt8 × List UInt8} (hr : Rsg (fun x => cB (ckB x) t) l) {x : Blk} (h : x ∈ l.drop (plc (fun x => cB (ckB x) t) l + 1)) : 0 < cB (ckB x) t := by
 obtain ⟨i, hi, rfl⟩ := List.mem_iff_getElem.1 h; rw [List.getElem_drop]; exact hr.gt _ (by simp at hi; omega) rae
theorem put_pw {l : List Blk} (h : l.Pairwise lessB) (b : Blk) : (putB l b).Pairwise lessB := by
 have hr := rsg_pw h (ckB b); have hp := plc_le (fun x => cB (ckB x) (ckB b)) l
 have key : ∀ q, (∀ x ∈ l.drop q, 0 < cB (ckB x) (ckB b)) → plc (fun x => cB (ckB x) (ckB b)) l ≤ q → (l.take (plc (fun x => cB (ckB x) (ckB b)) l) ++ b :: l.drop q).Pairwise lessB := by
  intro q hq hle; rw [List.pairwise_append]; refine ⟨h.sublist (List.take_sublist _ _), ?_, ?_⟩
  ·rw [List.pairwise_cons]; exact ⟨fun y hy => (cB_ord.anti _ _).2 (hq y hy), h.sublist (List.drop_sublist _ _)⟩
  ·intro x hx y hy; have hx0 := ahead_lt hx
   rcases List.mem_cons.1 hy with e | e
   ·subst e; exact hx0
   ·exact cB_ord.trans _ _ _ hx0 ((cB_ord.anti _ _).2 (hq y e))
 unfold putB
 split
 ·exact key _ (fun x hx => behind_gt hr hx) rae
 ·rename_i hf; refine key _ (fun x hx => ?_) (Nat.le_refl _); obtain ⟨i, hi, rfl⟩ := List.mem_iff_getElem.1 hx; rw [List.getElem_drop]
  simp at hi
  have hn := fnd_f hr (by simpa using hf) (plc (fun x => cB (ckB x) (ckB b)) l + i) rae
  rcases Nat.eq_zero_or_pos i with g | g
  ·subst g; have := plc_at (fun x => cB (ckB x) (ckB b)) l rae; simp only [Nat.add_zero] at hn ⊢
   omega
  ·exact hr.gt _ rae rae
theorem put_mem {l : List Blk} (h : l.Pairwise lessB) (b x : Blk) : x ∈ putB l b ↔ x = b ∨ (x ∈ l ∧ cB (ckB x) (ckB b) ≠ 0) := by
 have hr := rsg_pw h (ckB b); have hp := plc_le (fun x => cB (ckB x) (ckB b)) l; unfold putB
 split
 ·rename_i hf; obtain ⟨hlt, hz⟩ := fnd_t hf; rw [List.mem_append, List.mem_cons]
  constructor
  ·rintro (q | q | q)
   ·exact .inr ⟨List.mem_of_mem_take q, by have := ahead_lt q; omega⟩
   ·exact .inl q
   ·exact .inr ⟨List.mem_of_mem_drop q, by have := behind_gt hr q; omega⟩
  ·rintro (q | ⟨q1, q2⟩)
   ·exact .inr (.inl q)
   ·rw [← List.take_append_drop (plc (fun x => cB (ckB x) (ckB b)) l) l, List.mem_append, List.drop_eq_getElem_cons hlt, List.mem_cons] at q1
    rcases q1 with q | q | q
    ·exact .inl q
    ·subst q; exact absurd hz q2
    ·exact .inr (.inr q)
 ·rename_i hf; rw [List.mem_append, List.mem_cons]
  constructor
  ·rintro (q | q | q)
   ·exact .inr ⟨List.mem_of_mem_take q, by have := ahead_lt q; omega⟩
   ·exact .inl q
   ·refine .inr ⟨List.mem_of_mem_drop q, ?_⟩; obtain ⟨i, hi, rfl⟩ := List.mem_iff_getElem.1 (List.mem_of_mem_drop q); exact fnd_f hr (by simpa using hf) i hi
  ·rintro (q | ⟨q1, q2⟩)
   ·exact .inr (.inl q)
   ·rw [← List.take_append_drop (plc (fun x => cB (ckB x) (ckB b)) l) l, List.mem_append] at q1
    rcases q1 with q | q
    ·exact .inl q
    ·exact .inr (.inr q)
theorem put_len (l : List Blk) (b : Blk) : (putB l b).length ≤ l.length + 1 := by
 have hp := plc_le (fun x => cB (ckB x) (ckB b)) l; unfold putB
 split <;> simp <;> omega
abbrev kLeaf : ByteArray := ⟨#[108, 101, 97, 102]⟩
abbrev kNote : ByteArray := ⟨#[110, 111, 116, 101]⟩
abbrev kFace : ByteArray := ⟨#[102, 97, 99, 101]⟩
def dKind (x : ByteArray) : Prop := x = kLeaf ∨ x = kNote ∨ x = kFace
theorem j2_draw (c : List Int) (hc : u8s c) (a s : Int) (K N T : ByteArray) (h0 : 0 ≤ a) (h1 : a < 4611686018427300000) (hT : T.size ≤ 100000) : ∃ T' a' s', Ev (fun k => au_.j2 k c a s K N T) (K, N, T', a', s') ∧ a ≤ a' ∧ a' ≤ a + 4 ∧ T'.size ≤ 100000 := by
 obtain ⟨b, a1, s1, e1, p1, q1⟩ := one_ok c hc a s 24 h0 rae rae
 cases b with
 | false =>
  refine ⟨T, a1, s1, aO_ ?_, rae, rae, hT⟩; simp only [au_.j2]; exact Ev_b (Ev_c e1) (Ev_f rav (Ev_n rfl))
 | true =>
  obtain ⟨n, a2, s2, e2, p2, q2, n0, n1⟩ := cV_ c hc a1 s1 3 rae rae rae; have hn := n1 rae; refine ⟨strOfNums (List.replicate (399 + n).toNat 0), a2, s2, aO_ ?_, rae, rae, by rw [strOf_size, List.length_replicate]; omega⟩; simp only [au_.j2]; refine Ev_b (Ev_c e1) (Ev_t rfl (Ev_b (Ev_c e2) ?_)); dsimp only; rw [wr64 (x := 399 + n) rae rae]; exact Ev_t rae (Ev_t rae (Ev_n rfl))
theorem j1_draw (c : List Int) (hc : u8s c) (a s : Int) (b : Bool) (K N T : ByteArray) (h0 : 0 ≤ a) (h1 : a < 4611686018427200000) (hN : N.size ≤ 100) (hT : T.size ≤ 100000) : ∃ T' a' s', Ev (fun k => au_.j1 k b c a s K N T) (K, N, T', a', s') ∧ a ≤ a' ∧ a' ≤ a + 60 ∧ T'.size ≤ 100000 := by
 cases b with
 | false =>
  obtain ⟨T', a', s', h2, h3, h4, h5⟩ := j2_draw c hc a s K N T h0 rae hT; refine ⟨T', a', s', aO_ ?_, rae, rae, h5⟩; simp only [au_.j1]; exact Ev_f rah h2
 | true =>
  obtain ⟨x, a1, s1, e1, p1, q1, hid, hd⟩ := leaf_draw c hc a s N h0 rae; obtain ⟨t, ht, hs⟩ := ltext_ok x hd (by rw [hid]; omega); obtain ⟨T', a', s', h2, h3, h4, h5⟩ := j2_draw c hc a1 s1 K N t rae rae rae; refine ⟨T', a', s', aO_ ?_, rae, rae, h5⟩; simp only [au_.j1]; exact Ev_t True.intro (Ev_b e1 (Ev_b ht h2))
theorem j0_draw (c : List Int) (hc : u8s c) (a s : Int) (K N T : ByteArray) (h0 : 0 ≤ a) (h1 : a < 4611686018427100000) (hN : N.size ≤ 100) (hT : T.size ≤ 100000) : ∃ T' a' s', Ev (fun k => au_.j0 k c a s K N T) (K, N, T', a', s') ∧ a ≤ a' ∧ a' ≤ a + 70 ∧ T'.size ≤ 100000 := by
 by_cases hk : K.toList = ([108, 101, 97, 102] : List UInt8); rotate_left
 ·obtain ⟨T', a', s', h2, h3, h4, h5⟩ := j1_draw c hc a s false K N T rae rae hN hT; refine ⟨T', a', s', aO_ ?_, rae, rae, h5⟩; simp only [au_.j0]; exact Ev_f hk h2
 obtain ⟨b, a1, s1, e1, p1, q1⟩ := one_ok c hc a s 2 h0 rae rae; obtain ⟨T', a', s', h2, h3, h4, h5⟩ := j1_draw c hc a1 s1 b K N T rae rae hN hT; refine ⟨T', a', s', aO_ ?_, rae, rae, h5⟩; simp only [au_.j0]; exact Ev_t hk (Ev_b (Ev_c e1) h2)
theorem block_draw (c : List Int) (hc : u8s c) (a s : Int) (h0 : 0 ≤ a) (h1 : a < 4611686018427000000) : ∃ (x : Blk) (a' s' : Int), Ev (fun k => au_.f k c a s) (x.f0, x.f1, x.f2, a', s') ∧ a ≤ a' ∧ a' ≤ a + 100 ∧ dKind x.f0 ∧ x.f2.size ≤ 100000 := by
 obtain ⟨K, a1, s1, e1, p1, q1, hK⟩ := text_ok c hc a s [kLeaf, kNote, kFace] h0 rae rav rav; obtain ⟨N, a2, s2, e2, p2, q2, hN⟩ := text_ok c hc a1 s1 [(⟨#[97]⟩ : ByteArray), (⟨#[98]⟩ : ByteArray), (⟨#[99]⟩ : ByteArray), (⟨#[100]⟩ : ByteArray)] rae rae rav rav; obtain ⟨T, a3, s3, e3, p3, q3, hT⟩ := text_ok c hc a2 s2 [(⟨#[]⟩ : ByteArray), (⟨#[120]⟩ : ByteArray), (⟨#[97, 32, 98, 32, 99]⟩ : ByteArray), (⟨#[49, 50, 32, 51, 52]⟩ : ByteArray), (⟨#[111, 97, 107, 47, 52, 48]⟩ : ByteArray)] rae rae rav rav; obtain ⟨b, a4, s4, e4, p4, q4⟩ := one_ok c hc a3 s3 4 rae rae rae
 have hNs : N.size ≤ 100 := by
  simp only [List.mem_cons, List.not_mem_nil, or_false] at hN
  rcases hN with rfl | rfl | rfl | rfl <;> decide
 have hTs : T.size ≤ 100 := by
  simp only [List.mem_cons, List.not_mem_nil, or_false] at hT
  rcases hT with rfl | rfl | rfl | rfl | rfl <;> decide
 have hK2 : dKind K := by simpa [dKind] using hK
 cases b with
 | false =>
  obtain ⟨T', a', s', h2, h3, h4, h5⟩ := j0_draw c hc a4 s4 K N T rae rae hNs rae; refine ⟨⟨K, N, T'⟩, a', s', ?_, rae, rae, hK2, h5⟩; simp only [au_.f]; exact Ev_b (Ev_c e1) (Ev_b (Ev_c e2) (Ev_b (Ev_c e3) (Ev_b (Ev_c e4) (Ev_f rav h2))))
 | true =>
  obtain ⟨wd, a5, s5, e5, p5, q5, hw⟩ := word_ok c hc a4 s4 9 rae rae rae rae; obtain ⟨T', a', s', h2, h3, h4, h5⟩ := j0_draw c hc a5 s5 K N (T ++ wd) rae rae hNs (by rw [ByteArray.size_append]; omega); refine ⟨⟨K, N, T'⟩, a', s', ?_, rae, rae, hK2, h5⟩; simp only [au_.f]; exact Ev_b (Ev_c e1) (Ev_b (Ev_c e2) (Ev_b (Ev_c e3) (Ev_b (Ev_c e4) (Ev_t rfl (Ev_b e5 (Ev_t (by dsimp only; omega) h2))))))
def oneV (x : Blk) : Prop := (x.f2.size : Int) ≤ 1048576 ∧ Ev (fun k => aC_.f k [x]) true
def okL (m : List Blk) : Prop := m.length ≤ 32 ∧ m.Pairwise lessB ∧ ∀ y ∈ m, oneV y
theorem okL.len {m : List Blk} (h : okL m) : (m.length : Int) ≤ 1048576 := by have := h.1; omega
theorem okL.w {m : List Blk} (h : okL m) : ∀ y ∈ m, (y.f2.size : Int) ≤ 1048576 := fun y hy => (h.2.2 y hy).1
theorem okL.ev {m : List Blk} (h : okL m) : Ev (fun k => br_.f k m) true := by
 obtain ⟨hl, hp, ho⟩ := h
 have go : ∀ (d i : Nat), i + d = m.length → Ev (fun k => br_.l0 k m i) true := by
  intro d
  induction d with
  | zero =>
   intro i hi; refine aO_ ?_; simp only [br_.l0]; exact Ev_f rae (Ev_n (det rae))
  | succ d ih =>
   intro i hi; have h1 := (ho _ (List.getElem_mem (show i < m.length by omega))).2; refine aO_ ?_; simp only [br_.l0]; rw [de_ m i rae, wr64s i rae]; refine Ev_t rae (Ev_t rae (Ev_b h1 (Ev_t rfl ?_))); by_cases h0 : i = 0; rotate_left
   ·have e : wrap64 ((i : Int) - 1) = ((i - 1 : Nat) : Int) := by rw [wr64 rae rae]; omega
    rw [e, de_ m (i - 1) rae]; have hc : cB (ckB (m[i - 1]'rae)) (ckB (m[i]'rae)) < 0 := (List.pairwise_iff_getElem.1 hp) (i - 1) i rae rae rae; refine Ev_t rae (Ev_t rae (Ev_t rae (Ev_b (Ev_c (bfr_ev _ _)) (Ev_t (by simpa using hc) (ih (i + 1) rae)))))
   exact Ev_f rae (ih (i + 1) rae)
 simp only [br_.f]; exact go m.length 0 rae
theorem okL.put {m : List Blk} (h : okL m) {b : Blk} (hb : oneV b) (hl : (putB m b).length ≤ 32) : okL (putB m b) := by
 refine ⟨hl, put_pw h.2.1 b, fun y hy => ?_⟩
 rcases (put_mem h.2.1 b y).1 hy with rfl | ⟨g, _⟩
 ·exact hb
 ·exact h.2.2 y g
theorem put_spec {m : List Blk} (h : okL m) (b : Blk) (hb : (b.f2.size : Int) ≤ 1048576) : ∃ r c, Ev (fun k => bB_.f k m b.f0 b.f1 b.f2) (r, c) ∧ (c = 0 → oneV b ∧ r = putB m b ∧ (putB m b).length ≤ 32) ∧ (oneV b → (putB m b).length ≤ 32 → r = putB m b ∧ c = 0) := by
 obtain ⟨vb, hvb⟩ := validB_ev b hb; have g1 : Ev (fun k => aC_.f k [b]) vb := ⟨2000001, fun k hk => (hvb k rae).1⟩; have f1 := put_ev m h.len b (rsg_pw h.2.1 _)
 cases vb with
 | false =>
  refine ⟨[], 1, ?_, fun g => by omega, fun g => by have := Ev_one g1 g.2; cases this⟩; simp only [bB_.f]; refine Ev_b h.ev (Ev_t rfl (Ev_b g1 (aO_ ?_))); simp only [bB_.j0]; exact Ev_t rbj (Ev_n rfl)
 | true =>
  by_cases hl : ((putB m b).length : Int) > 32; rotate_left
  ·refine ⟨putB m b, 0, ?_, fun _ => ⟨⟨hb, g1⟩, rfl, rae⟩, fun _ _ => ⟨rfl, rfl⟩⟩; simp only [bB_.f]; refine Ev_b h.ev (Ev_t rfl (Ev_b g1 (aO_ ?_))); simp only [bB_.j0]; exact Ev_f rah (Ev_b f1 (Ev_f hl (Ev_n rfl)))
  refine ⟨[], 5, ?_, fun g => by omega, fun _ g => by omega⟩; simp only [bB_.f]; refine Ev_b h.ev (Ev_t rfl (Ev_b g1 (aO_ ?_))); simp only [bB_.j0]; exact Ev_f rah (Ev_b f1 (Ev_t hl (Ev_n rfl)))
theorem blocks_loop (c : List Int) (hc : u8s c) : ∀ (n : Nat) (a s : Int) (m : List Blk), n ≤ 10 → 0 ≤ a → a + 100 * n < 4611686018427000000 → okL m → (∀ y ∈ m, dKind y.f0) → ∃ m' a' s', Ev (fun k => bI_.l0 k m n c a s) (m', a', s') ∧ okL m' ∧ m'.length ≤ m.length + n ∧ ∀ y ∈ m', dKind y.f0
 | 0, a, s, m, _, _, _, hm, hk => ⟨m, a, s, by refine aO_ ?_; simp only [bI_.l0]; exact Ev_f rav (Ev_n rfl), hm, rae, hk⟩
 | n + 1, a, s, m, hn, h0, h1, hm, hk => by
  obtain ⟨x, a1, s1, e1, p1, q1, k1, z1⟩ := block_draw c hc a s h0 rae; obtain ⟨r, cd, e2, g1, _⟩ := put_spec hm x rae; have ew : wrap64 (((n + 1 : Nat) : Int) - 1) = (n : Int) := by rw [wr64 rae rae]; omega
  by_cases hcd : cd = 0; rotate_left
  ·obtain ⟨m', a', s', h2, h3, h4, h5⟩ := blocks_loop c hc n a1 s1 m rae rae rae hm hk; refine ⟨m', a', s', aO_ ?_, h3, rae, h5⟩; simp only [bI_.l0, ew]; exact Ev_t rae (Ev_b e1 (Ev_b e2 (Ev_f hcd h2)))
  obtain ⟨ho, rfl, hl⟩ := g1 hcd; have hp := put_len m x
  obtain ⟨m', a', s', h2, h3, h4, h5⟩ := blocks_loop c hc n a1 s1 (putB m x) rae rae rae (hm.put ho hl) (fun y hy => by
   rcases (put_mem hm.2.1 x y).1 hy with rfl | ⟨g, _⟩
   ·exact k1
   ·exact hk y g)
  refine ⟨m', a', s', aO_ ?_, h3, rae, h5⟩; simp only [bI_.l0, ew]; exact Ev_t rae (Ev_b e1 (Ev_b e2 (Ev_t hcd h2)))
theorem blocks_draw (c : List Int) (hc : u8s c) : ∃ m, Ev (fun k => cT_.f k c) m ∧ okL m ∧ m.length ≤ 5 ∧ ∀ y ∈ m, dKind y.f0 := by
 obtain ⟨n, a1, s1, e1, p1, q1, n0, n1⟩ := cV_ c hc 0 0 6 rae rae rae; have hn := n1 rae; obtain ⟨m', a', s', h2, h3, h4, h5⟩ := blocks_loop c hc n.toNat a1 s1 [] rae rae rae ⟨rav, List.Pairwise.nil, rav⟩ rav; have hn2 : ((n.toNat : Nat) : Int) = n := by omega
 rw [hn2] at h2; refine ⟨m', ?_, h3, by simp at h4; omega, h5⟩; simp only [cT_.f]; refine Ev_b (a := (c, 0, 0)) (Ev_c rfl) (Ev_b (a := (m', a', s')) ?_ (Ev_n rfl)); simp only [bI_.f]; exact Ev_b (Ev_c e1) h2
theorem damaged_x (s : ByteArray) (hs : (s.size : Int) ≤ 1048576) (P : List ByteArray) (hP : lns s = P) (n : Nat) (hn : n + 1 = P.length) (hn0 : 1 ≤ n) (hlast : P[n]'rae = (⟨#[]⟩ : ByteArray)) (bad : Nat → Bool)
  (h : ∀ i (hi : i < n), 1 ≤ i → ∃ q : P4, Ev (fun k => ap_.f k (P[i]'rae)) q ∧ (bad i = false ↔ q.2.2.2 = 0)) : Ev (fun k => bb_.f k s) (((List.range' 1 (n - 1)).filter bad).map (fun i => ((i + 1 : Nat) : Int))) := by
 have hl := lns_len s; have hsp := split_i s hs; rw [hP] at hl hsp
 have go : ∀ (d i : Nat) (out : List Int), i + d = n → 1 ≤ i → out.length ≤ i → Ev (fun k => bb_.l0 k P (n : Int) out i) (out ++ ((List.range' i d).filter bad).map (fun i => ((i + 1 : Nat) : Int))) := by
  intro d
  induction d with
  | zero =>
   intro i out h1 h2 h3; refine aO_ ?_; simp only [bb_.l0]; rw [rdO_in P n rae, hlast]; exact Ev_f rae (Ev_t rae (Ev_t rae (Ev_t (by rw [Go.ByteArray.toList_eq]) (Ev_n rav))))
  | succ d ih =>
   intro i out h1 h2 h3; obtain ⟨q, p2, c⟩ := h i rae h2; have r1 := rdO_in P i rae; refine aO_ ?_; simp only [bb_.l0]; rw [r1, wr64s i rae, List.range'_succ, List.filter_cons]; refine Ev_t rae (Ev_t rae (Ev_t rae (Ev_b p2 ?_)))
   cases hb : bad i with
   | false =>
    exact Ev_t (c.1 hb) (ih (i + 1) out rae rae rae)
   | true =>
    have g := ih (i + 1) (out ++ [((i + 1 : Nat) : Int)]) rae rae rbk; rw [List.append_assoc] at g; exact Ev_f (fun e => by rw [c.2 e] at hb; cases hb) (Ev_t rae g)
 have e : wrap64 ((P.length : Int) - 1) = (n : Int) := by rw [wr64 rae rae]; omega
 simp only [bb_.f]; refine Ev_b (Ev_c hsp) ?_; rw [e]; have g := go (n - 1) 1 [] rae rae rav; rw [List.nil_append] at g; exact g
theorem Vb_of {x : Blk} (h : oneV x) : Vb x := by
 refine ⟨h.1, fun k hk => ?_⟩; obtain ⟨b, hb⟩ := validB_ev x h.1; have e : b = true := Ev_one ⟨2000001, fun k hk => (hb k rae).1⟩ h.2; have := hb k hk; rw [e] at this; exact ⟨this.2, this.1⟩
abbrev R3i := List Blk × Int × Int
theorem chk_val (Y : List UInt8) (hY : Y.length ≤ 1000000) : Ev (fun k => bM_.f k (Bs Y)) (five ((crcN 65535 Y : Nat) : Int)) := by
 have hlt := crcN_lt Y (show 65535 < 65536 by decide); obtain ⟨r, r0, r1, c1, c2⟩ := crc_ev (Bs Y) ra3; have e := Ev_one c1 (crc_val Y rae); rw [e] at c2; exact five_impl (Bs Y) _ rae rae c2
theorem iparse_pre (P : List UInt8) (s : UInt8) (Y : List UInt8) (hP : P.length = 5) (hY : Y.length ≤ 1000000) :
  (s ≠ 32 → Ev (fun k => ap_.f k (Bs (P ++ s :: Y))) (no4 9)) ∧
  (s = 32 → P ≠ fiveL Y → Ev (fun k => ap_.f k (Bs (P ++ s :: Y))) (no4 10)) ∧
  (s = 32 → P = fiveL Y → ∀ (l : List ByteArray), strings_SplitN.f (Bs Y) (⟨#[32]⟩ : ByteArray) 3 = some l →
   (l.length < 3 → Ev (fun k => ap_.f k (Bs (P ++ s :: Y))) (no4 9)) ∧
   (3 ≤ l.length → ∀ b, Ev (fun k => bo_.f k (rdOf be_ l 0) (rdOf be_ l 1) (rdOf be_ l 2)) b → Ev (fun k => ap_.f k (Bs (P ++ s :: Y))) (if b = true then (rdOf be_ l 0, rdOf be_ l 1, rdOf be_ l 2, 0) else no4 9))) := by
 have hl : (P ++ s :: Y).length = 6 + Y.length := by simp; omega
 have hb : bt (Bs (P ++ s :: Y)) 5 = (s.toNat : Int) := by
  have := bt_in (P ++ s :: Y) 5 rae; rw [show ((5 : Nat) : Int) = 5 by rfl] at this; rw [this]
  congr 2
  rw [List.getElem_append_right rae]
  simp [hP]
 have e6 : (Bs (P ++ s :: Y)).extract 6 (Bs (P ++ s :: Y)).size = Bs Y := ext3 (P ++ s :: Y) 6 _ (P ++ [s]) Y [] rav (by simp [hP]) ra3; have e5 : (Bs (P ++ s :: Y)).extract 0 5 = Bs P := ext3 (P ++ s :: Y) 0 5 [] P (s :: Y) rav rfl rae; have c1 := chk_val Y hY; simp only [ap_.f]; rw [hb]; refine ⟨fun hs => ?_, fun hs hne => ?_, fun hs he l hsp => ?_⟩
 ·have : ((s.toNat : Int) != 32) = true := by
   rw [bne_iff_ne]; intro e; exact hs ((u8_eq s 32 rah).1 e)
  rw [this]; refine Ev_f ra3 (Ev_t ra3 (aO_ ?_)); simp only [ap_.j0]; exact Ev_t (by first | exact True.intro | rfl) (Ev_n rfl)
 ·subst hs; have : (((32 : UInt8).toNat : Int) != 32) = false := by decide
  rw [this]; refine Ev_f ra3 (Ev_t ra3 (aO_ ?_)); simp only [ap_.j0]; rw [e6, e5]; refine Ev_f rah (Ev_t ra3 (Ev_s (Ev_t ra3 (Ev_b c1 (Ev_f (fun h => ?_) (Ev_n rfl)))))); rw [Go.ByteArray.toList_eq, Go.ByteArray.toList_eq, ck_] at h; exact hne h
 ·subst hs; have : (((32 : UInt8).toNat : Int) != 32) = false := by decide
  rw [this]
  have hd : (Bs P).toList = (five ((crcN 65535 Y : Nat) : Int)).toList := by
   rw [Go.ByteArray.toList_eq, Go.ByteArray.toList_eq, ck_]; exact he
  refine ⟨fun h3 => ?_, fun h3 b hv => ?_⟩
  ·refine Ev_f ra3 (Ev_t ra3 (aO_ ?_)); simp only [ap_.j0]; rw [e6, e5]; exact Ev_f rah (Ev_t ra3 (Ev_s (Ev_t ra3 (Ev_b c1 (Ev_t hd (Ev_b (Ev_c hsp) (Ev_t rae (Ev_n rfl))))))))
  ·refine Ev_f ra3 (Ev_t ra3 (aO_ ?_)); simp only [ap_.j0]; rw [e6, e5]; refine Ev_f rah (Ev_t ra3 (Ev_s (Ev_t ra3 (Ev_b c1 (Ev_t hd (Ev_b (Ev_c hsp) (Ev_f rae (Ev_t rae (Ev_t rae (Ev_t rae (Ev_b hv ?_)))))))))))
   cases b with
   | true => exact Ev_t rfl (Ev_n rfl)
   | false => exact Ev_f rah (Ev_n rfl)
theorem iparse_any (x : ByteArray) (hx : x.size ≤ 900000) : ∃ q : P4, Ev (fun k => ap_.f k x) q ∧ (q.2.2.2 = 0 → (q.2.2.1.size : Int) ≤ 1048576) := by
 have no9 : Ev (fun k => ap_.j0 k x true) (no4 9) := by
  refine aO_ ?_; simp only [ap_.j0]; exact Ev_t (by first | exact True.intro | rfl) (Ev_n rfl)
 by_cases h6 : x.size < 6
 ·refine ⟨no4 9, ?_, fun h => absurd h rah⟩; simp only [ap_.f]; exact Ev_t rae no9
 have hxl : x.data.toList.length = x.size := by rw [Array.length_toList]; rfl
 obtain ⟨P, s, Y, hP, hX⟩ : ∃ P s Y, P.length = 5 ∧ x.data.toList = P ++ s :: Y := by
  refine ⟨x.data.toList.take 5, x.data.toList[5]'rae, x.data.toList.drop 6, by rw [List.length_take]; omega, ?_⟩; rw [← List.drop_eq_getElem_cons rae, List.take_append_drop]
 have hY : Y.length ≤ 1000000 := by
  have := congrArg List.length hX; rw [hxl, List.length_append, List.length_cons] at this
  omega
 have hB : x = Bs (P ++ s :: Y) := by rw [← hX, co_]
 obtain ⟨p1, p2, p3⟩ := iparse_pre P s Y hP hY; rw [hB]; by_cases c1 : s = 32
 case neg => exact ⟨no4 9, p1 c1, fun h => absurd h rah⟩
 by_cases c2 : P = fiveL Y
 case neg => exact ⟨no4 10, p2 c1 c2, fun h => absurd h rah⟩
 have hsp := splitN_f Y rae 32; generalize hl : (Go.Lib.splitK [32] 0 (min 3 (Y.length + 1) - 1) Y).map Bs = l at hsp; obtain ⟨g1, g2⟩ := p3 c1 c2 l hsp; by_cases c3 : l.length < 3
 ·exact ⟨no4 9, g1 c3, fun h => absurd h rah⟩
 have hsz : (rdOf be_ l 2).size ≤ 1048576 := by
  have h2 : rdOf be_ l 2 = l[2]'rae := rdO_in l 2 rae
  have hm : rdOf be_ l 2 ∈ l := by
   rw [h2]; exact List.getElem_mem _
  generalize rdOf be_ l 2 = z at hm ⊢
  have key : ∀ (k : Nat) (Z : List UInt8) (y : List UInt8), y ∈ Go.Lib.splitK [32] 0 k Z → y.length ≤ Z.length := by
   intro k
   induction k with
   | zero =>
    intro Z y hy; rw [Go.Lib.splitK] at hy; rw [List.mem_singleton.1 hy]; exact Nat.le_refl _
   | succ k ih =>
    intro Z y hy
    rcases first_of 32 Z with h | ⟨A, B, h, hA⟩
    ·rw [splitK_miss 32 Z h] at hy; rw [List.mem_singleton.1 hy]; exact Nat.le_refl _
    ·rw [h, splitK_hit 32 A B hA] at hy; rw [h, List.length_append, List.length_cons]
     rcases List.mem_cons.1 hy with e | e
     ·rw [e]; omega
     ·have := ih B y e
      omega
  rw [← hl] at hm; obtain ⟨y, hy, e⟩ := List.mem_map.1 hm; have h3 := key _ Y y hy; rw [← e, bP_]
  omega
 obtain ⟨b, hb⟩ := validB_ev (⟨rdOf be_ l 0, rdOf be_ l 1, rdOf be_ l 2⟩ : Blk) (by show ((rdOf be_ l 2).size : Int) ≤ 1048576; omega); have g3 := g2 rae b ⟨2000001, fun k hk => (hb k rae).2⟩; refine ⟨_, g3, fun h => ?_⟩
 cases b with
 | false => exact absurd h (show ¬ (9 : Int) = 0 by decide)
 | true => show ((rdOf be_ l 2).size : Int) ≤ 1048576; omega
theorem iparse_ok {x : Blk} (h : Ev (fun k => aC_.f k [x]) true) (hx : (x.f2.size : Int) ≤ 1048576) : Ev (fun k => ap_.f k (Bs (lineL x))) (x.f0, x.f1, x.f2, 0) := by
 have hl := dw_ h hx; obtain ⟨a, b, _, _, _, _⟩ := one_parts h hx; have a1 : (32 : UInt8) ∉ x.f0.data.toList := no_of rah (fun y hy => (a y hy).1); have b1 : (32 : UInt8) ∉ x.f1.data.toList := no_of rah (fun y hy => (b y hy).1)
 have hsp : strings_SplitN.f (Bs (restL x)) (⟨#[32]⟩ : ByteArray) 3 = some [x.f0, x.f1, x.f2] := by
  have hs : (⟨#[32]⟩ : ByteArray) = Bs [32] := rfl; have hl2 : 2 ≤ (restL x).length := by unfold restL; simp only [List.length_append, List.length_cons]; omega
  rw [hs, splitN_f (restL x) rae 32, show min 3 ((restL x).length + 1) - 1 = 1 + 1 by omega]; unfold restL; rw [splitK_hit 32 _ _ a1, show (1 : Nat) = 0 + 1 from rfl, splitK_hit 32 _ _ b1, Go.Lib.splitK]; simp only [List.map_cons, List.map_nil, co_]
 obtain ⟨bb, hbb⟩ := validB_ev x hx; have hb : bb = true := Ev_one ⟨2000001, fun k hk => (hbb k rae).1⟩ h; have g := ((iparse_pre (fiveL (restL x)) 32 (restL x) (fiveL_len _) rae).2.2 rfl rfl [x.f0, x.f1, x.f2] hsp).2 rav bb ⟨2000001, fun k hk => (hbb k rae).2⟩; rw [if_pos hb] at g; exact g
theorem iparse_bad {x : Blk} (h : Ev (fun k => aC_.f k [x]) true) (hx : (x.f2.size : Int) ≤ 1048576) (q : Nat) (hq : q < (lineL x).length) (c : UInt8) (hc : c ≠ (lineL x)[q]) : ∃ e : Int, e ≠ 0 ∧ Ev (fun k => ap_.f k (Bs ((lineL x).set q c))) (no4 e) := by
 have hl := dw_ h hx; have h5 := fiveL_len (restL x); by_cases c1 : q < 5; rotate_left
 ·by_cases c2 : q = 5; rotate_left
  ·obtain ⟨p, rfl⟩ : ∃ p, q = 6 + p := ⟨q - 6, rae⟩; have hp : p < (restL x).length := by unfold lineL at hq; simp at hq; omega
   have e : (lineL x).set (6 + p) c = fiveL (restL x) ++ 32 :: (restL x).set p c := by
    unfold lineL; rw [List.set_append, if_neg rae, h5, show 6 + p - 5 = p + 1 by omega]; rfl
   have ec : (lineL x)[6 + p] = (restL x)[p] := by
    simp only [lineL]; rw [List.getElem_append_right rae]; simp only [h5, show 6 + p - 5 = p + 1 by omega, List.getElem_cons_succ]
   rw [e]; refine ⟨10, rah, (iparse_pre _ 32 ((restL x).set p c) h5 (by rw [List.length_set]; omega)).2.1 rfl (fun g => ?_)⟩; have hA : restL x = (restL x).take p ++ (restL x)[p] :: (restL x).drop (p + 1) := by rw [← List.drop_eq_getElem_cons hp, List.take_append_drop]
   have hB : (restL x).set p c = (restL x).take p ++ c :: (restL x).drop (p + 1) := List.set_eq_take_append_cons_drop.trans (by rw [if_pos hp]); have hd := crc_change ((restL x).take p) ((restL x).drop (p + 1)) (restL x)[p] c (fun g2 => hc (by rw [ec, g2])); rw [← hA, ← hB] at hd
   apply hd
   apply five_inj
   unfold fiveL at g; rw [← co_ (five _), g, co_]
  subst c2
  have e : (lineL x).set 5 c = fiveL (restL x) ++ c :: restL x := by
   unfold lineL; rw [List.set_append, if_neg rae, h5]; rfl
  rw [e]; refine ⟨9, rah, (iparse_pre _ c (restL x) h5 rae).1 (fun g => ?_)⟩
  apply hc
  rw [g]; simp only [lineL]; rw [List.getElem_append_right rae]
  simp [h5]
 have e : (lineL x).set q c = (fiveL (restL x)).set q c ++ 32 :: restL x := by unfold lineL; rw [List.set_append, if_pos rae]
 rw [e]; refine ⟨10, rah, (iparse_pre _ 32 (restL x) (by rw [List.length_set]; exact h5) rae).2.1 rfl (fun g => ?_)⟩; have g2 : ((fiveL (restL x)).set q c)[q]'(by rw [List.length_set]; omega) = (fiveL (restL x))[q]'rae := by congr 1
 rw [List.getElem_set_self] at g2
 apply hc
 rw [g2]; simp only [lineL]; rw [List.getElem_append_left]
theorem iloads (P Q : List ByteArray) (hQ : Q.length ≤ 50000) (hs : ∀ x ∈ Q, x.size ≤ 900000) (c : Int) : ∀ (d j : Nat) (out : List Blk), j + d = Q.length → out.length = j → ∃ r : R3i, Ev (fun k => ae_.l0 k P c out Q (Q.length : Int) (j : Int)) r ∧ (r.2.2 = 0 → ((Q.length : Int) = c ∧ ∀ i (hi : i < Q.length), j ≤ i → ∃ q : P4, Ev (fun k => ap_.f k Q[i]) q ∧ q.2.2.2 = 0)) := by
 intro d
 induction d with
 | zero =>
  intro j out h1 h2; by_cases e : (out.length : Int) = c; rotate_left
  ·refine ⟨([], 0, 11), aO_ ?_, fun h => absurd h (show ¬ (11 : Int) = 0 by decide)⟩; simp only [ae_.l0]; exact Ev_f rae (Ev_f e (Ev_n rfl))
  refine ⟨(out, 0, 0), aO_ ?_, fun _ => ⟨rae, fun i hi h => by omega⟩⟩; simp only [ae_.l0]; exact Ev_f rae (Ev_t e (Ev_n rfl))
 | succ d ih =>
  intro j out h1 h2; have hi : j < Q.length := by omega
  have r1 : rdOf be_ Q (j : Int) = Q[j]'hi := rdO_in Q j hi; obtain ⟨q, p1, _⟩ := iparse_any (Q[j]'hi) (hs _ (List.getElem_mem hi)); have w2 : wrap64 ((j : Int) + 2) = ((j + 2 : Nat) : Int) := by rw [wr64 rae rae]; omega
  have j2bad : ∀ b, b = true ∨ ¬ q.2.2.2 = 0 → ∃ z : Int, z ≠ 0 ∧ Ev (fun k => ae_.j2 k P c out (j : Int) q.2.2.2 Q (Q.length : Int) (j : Int) b q.1 q.2.1 q.2.2.1) (([], ((j + 2 : Nat) : Int), z) : R3i) := by
   intro b hb
   cases b with
   | true =>
    refine ⟨7, rah, aO_ ?_⟩; simp only [ae_.j2]; rw [w2]; exact Ev_t (by first | exact True.intro | rfl) (Ev_n rfl)
   | false =>
    have hq : ¬ q.2.2.2 = 0 := hb.resolve_left rah; refine ⟨q.2.2.2, hq, aO_ ?_⟩; simp only [ae_.j2]; rw [w2]; exact Ev_f rah (Ev_f hq (Ev_n rfl))
  by_cases hc : q.2.2.2 = 0
  case neg =>
   obtain ⟨z, z0, hz⟩ := j2bad false (.inr hc); refine ⟨([], ((j + 2 : Nat) : Int), z), aO_ ?_, fun h => absurd h z0⟩; simp only [ae_.l0]; rw [r1]; exact Ev_t rae (Ev_t rae (Ev_t rae (Ev_b p1 (Ev_f hc hz))))
  obtain ⟨r, g1, g2⟩ := ih (j + 1) (out ++ [(⟨q.1, q.2.1, q.2.2.1⟩ : Blk)]) rae rbk
  have more : r.2.2 = 0 → ((Q.length : Int) = c ∧ ∀ i (hi : i < Q.length), j ≤ i → ∃ q : P4, Ev (fun k => ap_.f k Q[i]) q ∧ q.2.2.2 = 0) := by
   intro h; refine ⟨(g2 h).1, fun i hi2 h3 => ?_⟩
   rcases Nat.eq_or_lt_of_le h3 with e | e
   ·subst e; exact ⟨q, p1, hc⟩
   ·exact (g2 h).2 i hi2 rae
  have jf : Ev (fun k => ae_.j2 k P c out (j : Int) q.2.2.2 Q (Q.length : Int) (j : Int) false q.1 q.2.1 q.2.2.1) r := by
   refine aO_ ?_; simp only [ae_.j2]; rw [wr64s j rae]; exact Ev_f rah (Ev_t hc (Ev_t rae g1))
  by_cases h0 : j = 0; rotate_left
  ·have ew2 : wrap64 ((j : Int) - 1) = ((j - 1 : Nat) : Int) := by rw [wr64 rae rae]; omega
   have ro := de_ out (j - 1) rae; have b2 := cmp_ev (out[j - 1]'rae).f0 (out[j - 1]'rae).f1 (out[j - 1]'rae).f2 q.1 q.2.1 q.2.2.1; generalize cB ((out[j - 1]'rae).f0.data.toList, (out[j - 1]'rae).f1.data.toList) (q.1.data.toList, q.2.1.data.toList) = z at b2; by_cases hz : z ≥ 0; rotate_left
   ·refine ⟨r, aO_ ?_, more⟩; simp only [ae_.l0]; rw [r1, ew2, ro]; refine Ev_t rae (Ev_t rae (Ev_t rae (Ev_b p1 (Ev_t hc (Ev_t rae (Ev_t rae (Ev_t rae (Ev_b (Ev_c b2) ?_)))))))); rw [def_ hz]; exact jf
   obtain ⟨y, y0, hy⟩ := j2bad true (.inl rfl); refine ⟨([], ((j + 2 : Nat) : Int), y), aO_ ?_, fun h => absurd h y0⟩; simp only [ae_.l0]; rw [r1, ew2, ro]; refine Ev_t rae (Ev_t rae (Ev_t rae (Ev_b p1 (Ev_t hc (Ev_t rae (Ev_t rae (Ev_t rae (Ev_b (Ev_c b2) ?_)))))))); rw [det hz]; exact hy
  refine ⟨r, aO_ ?_, more⟩; simp only [ae_.l0]; rw [r1]; exact Ev_t rae (Ev_t rae (Ev_t rae (Ev_b p1 (Ev_t hc (Ev_f rae jf)))))
theorem joinL_len : ∀ (ls : List (List UInt8)), (∀ l ∈ ls, l.length ≤ 1000) → (joinL ls).length ≤ ls.length * 1001 := by
 intro ls
 induction ls with
 | nil => intro _; simp [joinL]
 | cons a ls ih =>
  intro h; have h1 := h a (List.mem_cons_self ..); have h2 := ih (fun l hl => h l (List.mem_cons_of_mem _ hl)); simp only [joinL, List.length_append, List.length_cons]
  omega
theorem rdv_dec (l : List UInt8) (h : (rdv false l).2 = true) : ∃ u : Nat, (rdv false l).1 = (u : Int) ∧ Go.Lib.decDigits u = l := by
 unfold rdv at h ⊢; by_cases c : 1 ≤ l.length ∧ l.length ≤ 18 ∧ (∀ c ∈ l, isD c) ∧ (l.head? = some 48 → false = false ∧ l.length = 1); rotate_left
 ·rw [if_neg c] at h; cases h
 rw [if_pos c]; refine ⟨dval 0 l, rfl, ?_⟩; obtain ⟨c1, c2, c3, c4⟩ := c; by_cases hz : l.head? = some 48; rotate_left
 ·refine (dec_dval l.length l rfl c3 (fun c hc e => hz ?_) (fun e => by rw [e] at c1; simp at c1)).1; rw [hc]; have : c = 48 := UInt8.toNat_inj.1 e; rw [this]
 have h1 := (c4 hz).2
 cases l with
 | nil => simp at h1
 | cons a r =>
  have : r = [] := by simpa using h1
  subst this; have : a = 48 := by simpa using hz
  rw [this]; exact dec_zero
theorem rdl_dec (l : List UInt8) (h : (rdl l).2 = true) (h0 : 0 ≤ (rdl l).1) : ∃ u : Nat, (rdl l).1 = (u : Int) ∧ Go.Lib.decDigits u = l := by
 cases l with
 | nil => exact absurd h rah
 | cons a r =>
  by_cases c : a = 45; rotate_left
  ·have e : rdl (a :: r) = rdv false (a :: r) := by rw [rdl, if_neg c]
   rw [e] at h ⊢; exact rdv_dec _ h
  exfalso
  have e : rdl (a :: r) = rdv true r := by rw [rdl, if_pos c]
  rw [e] at h h0; unfold rdv at h h0; by_cases q : 1 ≤ r.length ∧ r.length ≤ 18 ∧ (∀ c ∈ r, isD c) ∧ (r.head? = some 48 → true = false ∧ r.length = 1); rotate_left
  ·rw [if_neg q] at h; cases h
  rw [if_pos q] at h0; obtain ⟨c1, c2, c3, c4⟩ := q
  have hd := (dec_dval r.length r rfl c3 (fun c hc e => by
   have : c = 48 := UInt8.toNat_inj.1 e; have := (c4 (by rw [hc, this])).1; cases this) (fun e => by rw [e] at c1; simp at c1)).2
  simp only [if_true] at h0
  omega
theorem rdl_small : ∀ n, n ≤ 32 → rdl (Go.Lib.decDigits n) = ((n : Int), true) := by decide +kernel
theorem iload_inv (S : List UInt8) (hS : S.length ≤ 50000) : ∃ r : R3i, Ev (fun k => ae_.f k (Bs S)) r ∧ (r.2.2 = 0 → ∃ (h : List UInt8) (ls : List (List UInt8)), spl 10 S = (h :: ls) ++ [[]] ∧ (∀ l ∈ ls, ∃ q : P4, Ev (fun k => ap_.f k (Bs l)) q ∧ q.2.2.2 = 0) ∧ h = hdrL ls.length) := by
 rcases List.eq_nil_or_concat S with rfl | ⟨M, d, hMd⟩
 ·refine ⟨([], 0, 11), ?_, fun h => absurd h (show ¬ (11 : Int) = 0 by decide)⟩; simp only [ae_.f]; exact Ev_b (Ev_c suffix_0) (Ev_f rah (Ev_n rfl))
 have hMd : S = M ++ [d] := by rw [hMd, List.concat_eq_append]
 subst hMd; rw [List.length_append, List.length_singleton] at hS; have sf := suffix_f M d rae; by_cases hd : d = 10
 case neg =>
  rw [def_ hd] at sf; refine ⟨([], 0, 11), ?_, fun h => absurd h (show ¬ (11 : Int) = 0 by decide)⟩; simp only [ae_.f]; exact Ev_b (Ev_c sf) (Ev_f rah (Ev_n rfl))
 subst hd; rw [det rfl] at sf; have hsz : (Bs (M ++ [10])).size = M.length + 1 := by rw [bP_]; simp
 have ew : wrap64 (((M.length + 1 : Nat) : Int) - 1) = (M.length : Int) := by rw [wr64 rae rae]; omega
 have ex : (Bs (M ++ [10])).extract 0 M.length = Bs M := ext3 (M ++ [10]) 0 M.length [] M [10] rav rfl rae
 have sp : strings_Split.f (Bs M) (⟨#[10]⟩ : ByteArray) = some ((spl 10 M).map Bs) := by
  have := split_f (Bs M) ra3 10; rw [ck_] at this; exact this
 have hpart := spl_part 10 M; have hspl := spl_nl 10 M; have hlen := spl_len 10 M
 cases hs : spl 10 M with
 | nil => exact absurd hs (spl_ne _ _)
 | cons h ls =>
 rw [hs] at sp hpart hspl hlen; have hh : h.length ≤ M.length := hpart h (List.mem_cons_self ..)
 have hls : ∀ x ∈ ls.map Bs, x.size ≤ 900000 := by
  intro x hx; obtain ⟨y, hy, rfl⟩ := List.mem_map.1 hx; have := hpart y (List.mem_cons_of_mem _ hy); rw [bP_]
  omega
 have hll : (ls.map Bs).length = ls.length := List.length_map ..; have hl2 : ls.length ≤ 50000 := by rw [List.length_cons] at hlen; omega
 have r0 : rdOf be_ ((h :: ls).map Bs) 0 = Bs h := rfl; have hP1 : (0 : Int) < (((h :: ls).map Bs).length : Int) := by simp only [List.length_map, List.length_cons]; omega
 have hP2 : (1 : Int) ≤ (((h :: ls).map Bs).length : Int) := by simp only [List.length_map, List.length_cons]; omega
 have jbad : ∀ c : Int, Ev (fun k => ae_.j0 k ((h :: ls).map Bs) c true) (([], 1, 9) : R3i) := by
  intro c; refine aO_ ?_; simp only [ae_.j0]; exact Ev_t (by first | exact True.intro | rfl) (Ev_n rfl)
 have n9 : ∀ {p : Prop}, ((([], 1, 9) : R3i)).2.2 = 0 → p := fun h => absurd h (show ¬ (9 : Int) = 0 by decide); simp only [ae_.f]; rw [hsz, ew]
 rcases cut_f h rae with ⟨q, hq, hf⟩ | ⟨_, hf⟩
 case inr =>
  refine ⟨([], 1, 9), Ev_b (Ev_c sf) (Ev_t rfl (Ev_t rae (Ev_t rae ?_))), n9⟩; rw [Int.toNat_natCast, ex]; refine Ev_b (Ev_c sp) (Ev_t hP1 ?_); rw [r0]; exact Ev_b (Ev_c hf) (Ev_b (dr_ _) (Ev_f (show ¬ (false = true) by decide) (jbad _)))
 have rq := dr_ (Bs q); have hrd : rdec (Bs q) = rdl q := by unfold rdec; rw [ck_]
 rw [hrd] at rq; by_cases c1 : (rdl q).2 = true
 case neg =>
  refine ⟨([], 1, 9), Ev_b (Ev_c sf) (Ev_t rfl (Ev_t rae (Ev_t rae ?_))), n9⟩; rw [Int.toNat_natCast, ex]; refine Ev_b (Ev_c sp) (Ev_t hP1 ?_); rw [r0]; exact Ev_b (Ev_c hf) (Ev_b rq (Ev_t rfl (Ev_f c1 (jbad _))))
 have wf := within_f (rdl q).1 0 32; by_cases c2 : 0 ≤ (rdl q).1 ∧ (rdl q).1 ≤ 32
 case neg =>
  have wf2 : as_.f (rdl q).1 0 32 = some false := by rw [wf]; simp; omega
  refine ⟨([], 1, 9), Ev_b (Ev_c sf) (Ev_t rfl (Ev_t rae (Ev_t rae ?_))), n9⟩; rw [Int.toNat_natCast, ex]; refine Ev_b (Ev_c sp) (Ev_t hP1 ?_); rw [r0]; exact Ev_b (Ev_c hf) (Ev_b rq (Ev_t rfl (Ev_t c1 (Ev_b (Ev_c wf2) (jbad _)))))
 have wf2 : as_.f (rdl q).1 0 32 = some true := by rw [wf]; simp; omega
 obtain ⟨r, g1, g2⟩ := iloads ((h :: ls).map Bs) (ls.map Bs) (by rw [hll]; exact hl2) hls (rdl q).1 ls.length 0 [] (by rw [hll]; omega) rfl; refine ⟨r, Ev_b (Ev_c sf) (Ev_t rfl (Ev_t rae (Ev_t rae ?_))), fun hr => ⟨h, ls, hspl, fun l hl => ?_, ?_⟩⟩
 ·rw [Int.toNat_natCast, ex]; refine Ev_b (Ev_c sp) (Ev_t hP1 ?_); rw [r0]; refine Ev_b (Ev_c hf) (Ev_b rq (Ev_t rfl (Ev_t c1 (Ev_b (Ev_c wf2) (aO_ ?_))))); simp only [ae_.j0]; exact Ev_f rah (Ev_t hP2 (Ev_s g1))
 ·obtain ⟨i, hi, rfl⟩ := List.mem_iff_getElem.1 hl; obtain ⟨w, w1, w2⟩ := (g2 hr).2 i (by rw [hll]; exact hi) rae; rw [List.getElem_map] at w1; exact ⟨w, w1, w2⟩
 ·have hc := (g2 hr).1; rw [hll] at hc; obtain ⟨u, u1, u2⟩ := rdl_dec q c1 c2.1; rw [u1] at hc; have : u = ls.length := by omega
  rw [hq, ← u2, this]; rfl
theorem spl_cnt : ∀ S : List UInt8, (spl 10 S).length = cnt10 S + 1
 | [] => rfl
 | b :: S => by
  have ih := spl_cnt S; rw [spl]; by_cases c : b = 10; rotate_left
  ·rw [if_neg c, show cnt10 (b :: S) = cnt10 [b] + cnt10 S from dz_ [b] S, cnt10_no (fun g => c (List.mem_singleton.1 g).symm)]
   cases hs : spl 10 S with
   | nil => exact absurd hs (spl_ne _ _)
   | cons a t => rw [hs] at ih; simp only [List.length_cons] at ih ⊢; omega
  rw [if_pos c, List.length_cons, ih, show cnt10 (b :: S) = cnt10 [b] + cnt10 S from dz_ [b] S, c]; show cnt10 S + 1 + 1 = 1 + cnt10 S + 1
  omega
theorem hdr_len (n : Nat) (hn : n ≤ 9) : (hdrL n).length = 9 := by
 unfold hdrL; rw [Go.Lib.decDigits, dif_pos rae]; rfl
theorem hdr_ge (n : Nat) : 9 ≤ (hdrL n).length := by
 unfold hdrL
 have h1 : Go.Lib.decDigits n ≠ [] := by
  rw [Go.Lib.decDigits]
  split
  ·simp
  ·simp
 have h2 : 1 ≤ (Go.Lib.decDigits n).length := List.length_pos_iff.2 h1; simp only [List.length_append, List.length_cons, List.length_nil]
 omega
theorem hdr_inj {a b : Nat} (h : hdrL a = hdrL b) : a = b := by
 have h2 := List.append_cancel_left (show [97, 114, 99, 104, 105, 118, 101, 32] ++ Go.Lib.decDigits a = [97, 114, 99, 104, 105, 118, 101, 32] ++ Go.Lib.decDigits b from h); rw [← valD_dec a, h2, valD_dec]
theorem cons_snoc {h : List UInt8} {ls : List (List UInt8)} {g : List UInt8} {r : List (List UInt8)} (e : (h :: ls) ++ [[]] = g :: r) : h = g ∧ ls ++ [[]] = r := by
 rw [List.cons_append, List.cons.injEq] at e; exact e
theorem iload_bad (m : List Blk) (hm : okL m) (h5 : m.length ≤ 5) (p : Nat) (hp : p < (joinL (arcL m)).length) (c : UInt8) (hc : c ≠ (joinL (arcL m))[p]) : ∃ r : R3i, r.2.2 ≠ 0 ∧ Ev (fun k => ae_.f k (Bs ((joinL (arcL m)).set p c))) r := by
 have hone := hm.2.2; have n10 := arc_no10 m hone; have n10h := hdr_no10 m.length; have n10l : ∀ l ∈ m.map lineL, (10 : UInt8) ∉ l := fun l hl => n10 l (by unfold arcL; exact List.mem_cons_of_mem _ hl)
 have hll : ∀ l ∈ arcL m, l.length ≤ 1000 := by
  intro l hl; unfold arcL at hl
  rcases List.mem_cons.1 hl with e | e
  ·rw [e, hdr_len _ rae]; omega
  ·obtain ⟨x, hx, rfl⟩ := List.mem_map.1 e; have h1 := dw_ (hone x hx).2 (hone x hx).1; have h2 := fiveL_len (restL x); unfold lineL; simp only [List.length_append, List.length_cons]
   omega
 have hsz := joinL_len _ hll; have hal : (arcL m).length = m.length + 1 := by simp [arcL]
 have hO : joinL (arcL m) = hdrL m.length ++ 10 :: joinL (m.map lineL) := rfl; obtain ⟨r, r1, r2⟩ := iload_inv ((joinL (arcL m)).set p c) (by rw [List.length_set]; omega); refine ⟨r, fun hr => ?_, r1⟩; obtain ⟨h, ls, g1, g2, g3⟩ := r2 hr; clear r1 r2; have h9 := hdr_len m.length rae; have hJ := spl_join _ n10l; by_cases c1 : p < 9
 ·have eO : (joinL (arcL m))[p] = (hdrL m.length)[p]'rae := by
   simp only [hO]; rw [List.getElem_append_left rae]
  rw [eO] at hc; have eS : (joinL (arcL m)).set p c = (hdrL m.length).set p c ++ 10 :: joinL (m.map lineL) := by rw [hO, List.set_append, if_pos rae]
  rw [eS] at g1; by_cases c10 : c = 10; rotate_left
  ·have hn : (10 : UInt8) ∉ (hdrL m.length).set p c := by
    intro g
    rcases List.mem_or_eq_of_mem_set g with e | e
    ·exact n10h e
    ·exact c10 e.symm
   rw [spl_head _ _ hn, hJ] at g1; obtain ⟨e1, e2⟩ := cons_snoc g1.symm
   have e3 : ls.length = m.length := by
    have := congrArg List.length e2; simp only [List.length_append, List.length_map, List.length_singleton] at this
    omega
   rw [e1, e3] at g3
   apply hc
   have e4 : ((hdrL m.length).set p c)[p]'(by rw [List.length_set]; omega) = (hdrL m.length)[p]'rae := by simp only [g3]
   rw [List.getElem_set_self] at e4; exact e4
  have eT : (hdrL m.length).set p c = (hdrL m.length).take p ++ 10 :: (hdrL m.length).drop (p + 1) := by rw [c10]; exact List.set_eq_take_append_cons_drop.trans (by rw [if_pos rae])
  rw [eT, List.append_assoc, List.cons_append, spl_head _ _ (fun g => n10h (List.mem_of_mem_take g))] at g1; obtain ⟨e1, _⟩ := cons_snoc g1.symm; have e2 := congrArg List.length e1; rw [List.length_take] at e2; rw [g3] at e2; have := hdr_ge ls.length
  omega
 by_cases c2 : p = 9; rotate_left
 ·obtain ⟨p', rfl⟩ : ∃ p', p = 10 + p' := ⟨p - 10, rae⟩; have hp' : p' < (joinL (m.map lineL)).length := by rw [hO] at hp; simp only [List.length_append, List.length_cons] at hp; omega
  have eO : (joinL (arcL m))[10 + p'] = (joinL (m.map lineL))[p'] := by
   simp only [hO]; rw [List.getElem_append_right rae]; simp only [h9, show 10 + p' - 9 = p' + 1 by omega, List.getElem_cons_succ]
  rw [eO] at hc
  have eS : (joinL (arcL m)).set (10 + p') c = hdrL m.length ++ 10 :: (joinL (m.map lineL)).set p' c := by
   rw [hO, List.set_append, if_neg rae, h9, show 10 + p' - 9 = p' + 1 by omega]; rfl
  rw [eS, spl_head _ _ n10h] at g1; obtain ⟨e1, e2⟩ := cons_snoc g1.symm; rw [e1] at g3; have e3 := hdr_inj g3; have k1 := spl_cnt (joinL (m.map lineL)); have k2 := spl_cnt ((joinL (m.map lineL)).set p' c); rw [hJ, List.length_append, List.length_map, List.length_singleton] at k1; rw [← e2, List.length_append, List.length_singleton] at k2; generalize hJJ : joinL (m.map lineL) = J at *; have hA : J = J.take p' ++ J[p'] :: J.drop (p' + 1) := by rw [← List.drop_eq_getElem_cons hp', List.take_append_drop]
  have hB : J.set p' c = J.take p' ++ c :: J.drop (p' + 1) := List.set_eq_take_append_cons_drop.trans (by rw [if_pos hp'])
  have q1 : cnt10 J = cnt10 (J.take p') + (cnt10 [J[p']] + cnt10 (J.drop (p' + 1))) := by
   conv => lhs; rw [hA]
   rw [dz_, show J[p'] :: J.drop (p' + 1) = [J[p']] ++ J.drop (p' + 1) from rfl, dz_]
  have q2 : cnt10 (J.set p' c) = cnt10 (J.take p') + (cnt10 [c] + cnt10 (J.drop (p' + 1))) := by rw [hB, dz_, show c :: J.drop (p' + 1) = [c] ++ J.drop (p' + 1) from rfl, dz_]
  have q3 : cnt10 [J[p']] = cnt10 [c] := by omega
  have one10 : cnt10 [(10 : UInt8)] = 1 := rfl; have none10 : ∀ b : UInt8, b ≠ 10 → cnt10 [b] = 0 := fun b hb => cnt10_no (fun g => hb (List.mem_singleton.1 g).symm)
  have hne : J[p'] ≠ 10 := by
   intro e; rw [e] at q3 hc; rw [one10, none10 c hc] at q3
   omega
  have hcne : c ≠ 10 := by
   intro e; rw [e] at q3; rw [one10, none10 _ hne] at q3
   omega
  have al := at_line (m.map lineL) p' (by rw [hJJ]; exact hp') n10l (by simp only [hJJ]; exact hne); simp only [hJJ] at al; obtain ⟨j, q, hj, hq, a1, _, a3⟩ := al; have hj' : j < m.length := by rw [List.length_map] at hj; exact hj
  have egj : (m.map lineL)[j] = lineL m[j] := List.getElem_map ..; have hq' : q < (lineL m[j]).length := by rw [← egj]; exact hq
  have a1' : (lineL m[j])[q] = J[p'] := by
   rw [← a1]
   congr 1
   exact egj.symm
  have gj : ((m.map lineL)[j]).set q c = (lineL m[j]).set q c := by rw [egj]
  have a4 := a3 c; rw [gj] at a4; generalize hBB : (lineL m[j]).set q c = B at a4
  have hBn : (10 : UInt8) ∉ B := by
   intro g; rw [← hBB] at g
   rcases List.mem_or_eq_of_mem_set g with e | e
   ·exact line_no10 (hone _ (List.getElem_mem hj')).2 (hone _ (List.getElem_mem hj')).1 e
   ·exact hcne e.symm
  have nset : ∀ l ∈ (m.map lineL).set j B, (10 : UInt8) ∉ l := by
   intro l hl
   rcases List.mem_or_eq_of_mem_set hl with e | e
   ·exact n10l l e
   ·rw [e]; exact hBn
  rw [a4, spl_join _ nset] at e2; have e4 : ls = (m.map lineL).set j B := List.append_cancel_right e2; obtain ⟨w, w1, w2⟩ := g2 B (by rw [e4]; exact List.mem_set hj B); obtain ⟨e, e0, w3⟩ := iparse_bad (hone _ (List.getElem_mem hj')).2 (hone _ (List.getElem_mem hj')).1 q hq' c (by rw [a1']; exact hc); rw [hBB] at w3; rw [Ev_one w1 w3] at w2; exact e0 w2
 subst c2
 have eO : (joinL (arcL m))[9] = 10 := by
  simp only [hO]; rw [List.getElem_append_right rae]
  simp [h9]
 rw [eO] at hc
 have eS : (joinL (arcL m)).set 9 c = hdrL m.length ++ c :: joinL (m.map lineL) := by
  rw [hO, List.set_append, if_neg rae, h9]; rfl
 rw [eS] at g1
 cases hm2 : m with
 | nil =>
  rw [hm2] at g1
  have hn : (10 : UInt8) ∉ hdrL ([] : List Blk).length ++ c :: joinL (([] : List Blk).map lineL) := by
   intro g
   rcases List.mem_append.1 g with e | e
   ·exact hdr_no10 _ e
   ·rcases List.mem_cons.1 e with e | e
    ·exact hc e.symm
    ·simp [joinL] at e
  rw [splM 10 _ hn] at g1; have := congrArg List.length g1
  simp at this
 | cons b m' =>
  rw [hm2] at g1
  have hn : (10 : UInt8) ∉ hdrL (b :: m').length ++ c :: lineL b := by
   intro g
   rcases List.mem_append.1 g with e | e
   ·exact hdr_no10 _ e
   ·rcases List.mem_cons.1 e with e | e
    ·exact hc e.symm
    ·exact n10l (lineL b) (by rw [hm2]; simp) e
  have eJ : hdrL (b :: m').length ++ c :: joinL ((b :: m').map lineL) = (hdrL (b :: m').length ++ c :: lineL b) ++ 10 :: joinL (m'.map lineL) := by simp [joinL]
  rw [eJ, spl_head _ _ hn] at g1; obtain ⟨e1, _⟩ := cons_snoc g1.symm; rw [g3] at e1
  have e1b : [97, 114, 99, 104, 105, 118, 101, 32] ++ Go.Lib.decDigits ls.length = [97, 114, 99, 104, 105, 118, 101, 32] ++ (Go.Lib.decDigits (b :: m').length ++ c :: lineL b) := by
   rw [← List.append_assoc]; exact e1
  have e2 : Go.Lib.decDigits ls.length = Go.Lib.decDigits (b :: m').length ++ c :: lineL b := List.append_cancel_left e1b
  have hs : (32 : UInt8) ∈ Go.Lib.decDigits ls.length := by
   rw [e2]; unfold lineL
   simp
  have := dec_ch _ _ hs; exact absurd this.1 rah
theorem iload_val (m : List Blk) (hm : okL m) : Ev (fun k => ae_.f k (Bs (joinL (arcL m)))) (m, 0, 0) := by
 have hone := hm.2.2; have n10 := arc_no10 m hone; have hlen := hm.1
 have hll : ∀ l ∈ arcL m, l.length ≤ 1000 := by
  intro l hl; unfold arcL at hl
  rcases List.mem_cons.1 hl with e | e
  ·rw [e]; have := Go.Lib.itoa_length_le (m.length : Int) rae rae; rw [Go.Lib.itoa_nonneg] at this; unfold hdrL; simp only [List.length_append, List.length_cons, List.length_nil]
   omega
  ·obtain ⟨x, hx, rfl⟩ := List.mem_map.1 e; have h1 := dw_ (hone x hx).2 (hone x hx).1; have h2 := fiveL_len (restL x); unfold lineL; simp only [List.length_append, List.length_cons]
   omega
 have hsz := joinL_len _ hll; have hal : (arcL m).length = m.length + 1 := by simp [arcL]
 have hj := spl_join _ n10; have hjl : joinL (arcL m) = hdrL m.length ++ 10 :: joinL (m.map lineL) := rfl
 obtain ⟨M, hM⟩ : ∃ M, joinL (arcL m) = M ++ [10] := by
  rcases List.eq_nil_or_concat (joinL (arcL m)) with e | ⟨M, d, e⟩
  ·rw [hjl] at e; simp at e
  ·rw [List.concat_eq_append] at e; by_cases hd : d = 10; rotate_left
   ·obtain ⟨P, q, h1, h2⟩ := spl_end 10 d hd M; rw [← e, hj] at h1; have := (List.append_inj' h1 rfl).2; exact absurd (List.singleton_inj.1 this).symm h2
   exact ⟨M, (by rw [e, hd])⟩
 have hspM : spl 10 M = arcL m := by
  have h1 := spl_nl 10 M; rw [← hM, hj] at h1; exact (List.append_cancel_right h1).symm
 rw [hM]
 have hML : M.length ≤ 50000 := by
  have := congrArg List.length hM; rw [List.length_append, List.length_singleton] at this
  omega
 have sf := suffix_f M 10 rae; rw [det rfl] at sf; have hszB : (Bs (M ++ [10])).size = M.length + 1 := by rw [bP_]; simp
 have ew : wrap64 (((M.length + 1 : Nat) : Int) - 1) = (M.length : Int) := by rw [wr64 rae rae]; omega
 have ex : (Bs (M ++ [10])).extract 0 M.length = Bs M := ext3 (M ++ [10]) 0 M.length [] M [10] rav rfl rae
 have sp : strings_Split.f (Bs M) (⟨#[10]⟩ : ByteArray) = some ((arcL m).map Bs) := by
  have := split_f (Bs M) ra3 10; rw [ck_, hspM] at this; exact this
 have hQ : ((arcL m).map Bs).drop 1 = (m.map lineL).map Bs := rfl; have hQl : ((m.map lineL).map Bs).length = m.length := by simp
 have hPl : ((arcL m).map Bs).length = m.length + 1 := by rw [List.length_map, hal]
 have go : ∀ (S T : List Blk), T ++ S = m → Ev (fun k => ae_.l0 k ((arcL m).map Bs) (m.length : Int) T ((m.map lineL).map Bs) (((m.map lineL).map Bs).length : Int) (T.length : Int)) (m, 0, 0) := by
  intro S
  induction S with
  | nil =>
   intro T hT; rw [List.append_nil] at hT; refine aO_ ?_; simp only [ae_.l0]; rw [hQl, hT]; exact Ev_f rae (Ev_t (by trivial) (Ev_n rfl))
  | cons x S ih =>
   intro T hT; have hlm : m.length = T.length + 1 + S.length := by rw [← hT]; simp; omega
   have hx : x ∈ m := by rw [← hT]; simp
   have p1 := iparse_ok (hone x hx).2 (hone x hx).1
   have r1 : rdOf be_ ((m.map lineL).map Bs) (T.length : Int) = Bs (lineL x) := by
    rw [rdO_in _ T.length rae, List.getElem_map, List.getElem_map]; have : m[T.length]'rae = x := by subst hT; simp
    rw [this]
   have nx := ih (T ++ [x]) (by simpa using hT); rw [show (T ++ [x]).length = T.length + 1 by simp] at nx
   have jf : Ev (fun k => ae_.j2 k ((arcL m).map Bs) (m.length : Int) T (T.length : Int) 0 ((m.map lineL).map Bs) (((m.map lineL).map Bs).length : Int) (T.length : Int) false x.f0 x.f1 x.f2) (m, 0, 0) := by
    refine aO_ ?_; simp only [ae_.j2]; rw [wr64s T.length rae]; exact Ev_f rah (Ev_t (by trivial) (Ev_t rae nx))
   refine aO_ ?_; simp only [ae_.l0]; rw [r1]; refine Ev_t rae (Ev_t rae (Ev_t rae (Ev_b p1 (Ev_t rfl ?_)))); by_cases h0 : T.length = 0; rotate_left
   ·have ew2 : wrap64 ((T.length : Int) - 1) = ((T.length - 1 : Nat) : Int) := by rw [wr64 rae rae]; omega
    have ro := de_ T (T.length - 1) rae; have b2 := cmp_ev (T[T.length - 1]'rae).f0 (T[T.length - 1]'rae).f1 (T[T.length - 1]'rae).f2 x.f0 x.f1 x.f2
    have hp : cB (ckB (T[T.length - 1]'rae)) (ckB x) < 0 := by
     have h2 := hm.2.1; rw [← hT] at h2; exact (List.pairwise_append.1 h2).2.2 _ (List.getElem_mem _) x (List.mem_cons_self ..)
    have hp2 : cB ((T[T.length - 1]'rae).f0.data.toList, (T[T.length - 1]'rae).f1.data.toList) (x.f0.data.toList, x.f1.data.toList) < 0 := hp; generalize cB ((T[T.length - 1]'rae).f0.data.toList, (T[T.length - 1]'rae).f1.data.toList) (x.f0.data.toList, x.f1.data.toList) = z at b2 hp2; rw [ew2, ro]; refine Ev_t rae (Ev_t rae (Ev_t rae (Ev_b (Ev_c b2) ?_))); rw [def_ (show ¬ z ≥ 0 by omega)]; exact jf
   exact Ev_f rae jf
 have r0 : rdOf be_ ((arcL m).map Bs) 0 = Bs (hdrL m.length) := rfl
 have hf : strings_CutPrefix.f (Bs (hdrL m.length)) (⟨#[97, 114, 99, 104, 105, 118, 101, 32]⟩ : ByteArray) = some (Bs (Go.Lib.decDigits m.length), true) := by
  rcases cut_f (hdrL m.length) (by have := hll (hdrL m.length) (by simp [arcL]); omega) with ⟨q, hq, hf⟩ | ⟨hno, _⟩
  ·have hq' : q = Go.Lib.decDigits m.length := (List.append_cancel_left (show arch ++ Go.Lib.decDigits m.length = arch ++ q from hq)).symm; rw [hf, hq']
  ·exact absurd rfl (hno (Go.Lib.decDigits m.length))
 have rq := dr_ (Bs (Go.Lib.decDigits m.length)); have hrd : rdec (Bs (Go.Lib.decDigits m.length)) = ((m.length : Int), true) := by unfold rdec; rw [ck_]; exact rdl_small _ hm.1
 rw [hrd] at rq; have wf2 : as_.f (m.length : Int) 0 32 = some true := by rw [within_f]; simp; omega
 simp only [ae_.f]; rw [hszB, ew]; refine Ev_b (Ev_c sf) (Ev_t rfl (Ev_t rae (Ev_t rae ?_))); rw [Int.toNat_natCast, ex]; refine Ev_b (Ev_c sp) (Ev_t rae ?_); rw [r0]; refine Ev_b (Ev_c hf) (Ev_b rq (Ev_t rfl (Ev_t rfl (Ev_b (Ev_c wf2) (aO_ ?_))))); simp only [ae_.j0]; rw [hQ]; exact Ev_f rah (Ev_t rae (Ev_s (go m [] rfl)))
theorem isave_val (m : List Blk) (hm : okL m) : Ev (fun k => bq_.f k m) (Bs (joinL (arcL m)), 0) := by
 have hone := hm.2.2; have hlm := hm.1
 have go : ∀ (R P : List Blk) (a : List UInt8), P ++ R = m → a.length ≤ 1000 + P.length * 1000 → Ev (fun k => bq_.l0 k m (Bs a) (P.length : Int)) (Bs (a ++ joinL (R.map lineL))) := by
  intro R
  induction R with
  | nil =>
   intro P a hP ha; refine aO_ ?_; simp only [bq_.l0]; have : P.length = m.length := by rw [← hP]; simp
   exact Ev_f rae (Ev_n (by simp [joinL]))
  | cons x R ih =>
   intro P a hP ha; have hpl : m.length = P.length + 1 + R.length := by rw [← hP]; simp; omega
   obtain ⟨x1, x2⟩ := hone x (by rw [← hP]; simp); have hrd : ab_ m (P.length : Int) = x := by subst hP; unfold ab_; exact getD_at P R _ x _ rfl
   have hrl := dw_ x2 x1; have h5 := fiveL_len (restL x); obtain ⟨_, _, z0, z1, z2, _⟩ := one_parts x2 x1
   have er : sbRest x = Bs (restL x) := by
    unfold sbRest; rw [← co_ x.f0, ← co_ x.f1, ← co_ x.f2, show (⟨#[32]⟩ : ByteArray) = Bs [32] from rfl, cy_, cy_, cy_, cy_]
    congr 1
    simp [restL]
   have c1 := chk_val (restL x) rae
   have hf5 : (five ((crcN 65535 (restL x) : Nat) : Int)).size = 5 := by
    have hlt := crcN_lt (restL x) (show 65535 < 65536 by decide); exact five_len _ rae rae
   have hll : (lineL x ++ [10]).length ≤ 1000 := by unfold lineL; simp only [List.length_append, List.length_cons, List.length_nil]; omega
   have nx := ih (P ++ [x]) (a ++ (lineL x ++ [10])) (by simpa using hP) (by rw [List.length_append]; have := (show (P ++ [x]).length = P.length + 1 by simp); omega); rw [show (P ++ [x]).length = P.length + 1 by simp] at nx; have e : a ++ joinL ((x :: R).map lineL) = a ++ (lineL x ++ [10]) ++ joinL (R.map lineL) := by simp [joinL]
   have el : Bs a ++ (((five ((crcN 65535 (restL x) : Nat) : Int) ++ (⟨#[32]⟩ : ByteArray)) ++ Bs (restL x)) ++ (⟨#[10]⟩ : ByteArray)) = Bs (a ++ (lineL x ++ [10])) := by
    rw [← co_ (five _), show (⟨#[32]⟩ : ByteArray) = Bs [32] from rfl, show (⟨#[10]⟩ : ByteArray) = Bs [10] from rfl, cy_, cy_, cy_, cy_]
    congr 1
    simp [lineL, fiveL]
   refine aO_ ?_; simp only [bq_.l0]; rw [hrd, er, wr64s _ rae]; refine Ev_t rae (Ev_t rae (Ev_t (by have := bP_ a; omega) (Ev_b c1 (Ev_t rae ?_)))); rw [el, e]; exact nx
 obtain ⟨b, hb⟩ := validBS_ev m rae (fun y hy => (hone y hy).1); have hbt : b = true := Ev_one ⟨4000001, fun k hk => (hb k rae).1⟩ hm.ev; have e2 : Ev (fun k => aq_.f k m) true := ⟨4000001, fun k hk => (hb k rae).2.trans (by rw [hbt])⟩
 have hdl : (Go.Lib.decDigits m.length).length ≤ 21 := by
  have := Go.Lib.itoa_length_le (m.length : Int) rae rae; rw [Go.Lib.itoa_nonneg] at this; exact this
 have hi : its (m.length : Int) = Bs (Go.Lib.decDigits m.length) := by unfold its; rw [Go.Lib.itoa_nonneg]
 have hd := dd_ (m.length : Int) rae rae; rw [hi] at hd
 have e0 : ((⟨#[97, 114, 99, 104, 105, 118, 101, 32]⟩ : ByteArray) ++ Bs (Go.Lib.decDigits m.length)) ++ (⟨#[10]⟩ : ByteArray) = Bs (hdrL m.length ++ [10]) := by
  rw [show (⟨#[97, 114, 99, 104, 105, 118, 101, 32]⟩ : ByteArray) = Bs [97, 114, 99, 104, 105, 118, 101, 32] from rfl, show (⟨#[10]⟩ : ByteArray) = Bs [10] from rfl, cy_, cy_]; rfl
 have g := go m [] (hdrL m.length ++ [10]) rfl (by unfold hdrL; simp only [List.length_append, List.length_cons, List.length_nil]; omega); have e : hdrL m.length ++ [10] ++ joinL (m.map lineL) = joinL (arcL m) := by simp [arcL, joinL]
 rw [e] at g; simp only [bq_.f]; refine Ev_b e2 (Ev_t rfl (Ev_b (Ev_c hd) (Ev_t ra3 ?_))); rw [e0]; exact Ev_b g (Ev_n rfl)
theorem ibs_end (l : List Blk) (hl : (l.length : Int) ≤ 1048576) (u v w : ByteArray) (hr : ∀ x ∈ l, cB (x.f0.data.toList, x.f1.data.toList) (u.data.toList, v.data.toList) < 0) :
  Ev (fun k => aH_.f k l u v w) ((l.length : Int), false) := by
 have go : ∀ (d i j : Nat), j = i + d → j = l.length → Ev (fun k => aH_.l0 k l (l.length : Int) i j u v w) ((l.length : Int), false) := by
  intro d
  induction d using Nat.strongRecOn with
  | _ d ih =>
  intro i j h1 h4; refine aO_ ?_; simp only [aH_.l0]; by_cases hd : d = 0; rotate_left
  ·refine Ev_t rae ?_; rw [mid_ev i j rae]; obtain ⟨m, hm⟩ : ∃ m, m = (i + j) / 2 := ⟨_, rfl⟩; rw [← hm]; have hm1 : m < l.length := by omega
   refine Ev_t rae (Ev_t rae ?_); rw [de_ l m hm1, cmp_ev]; refine Ev_s (Ev_t (hr _ (List.getElem_mem hm1)) ?_); rw [wr64s m rae]; exact ih (j - (m + 1)) rae (m + 1) j rae h4
  exact Ev_f rae (Ev_f rae (Ev_n (by rw [show i = l.length by omega])))
 simp only [aH_.f]; exact go l.length 0 l.length rae rfl
theorem iput_end (m : List Blk) (b : Blk) (hm : okL (m ++ [b])) : Ev (fun k => bS_.f k m b.f0 b.f1 b.f2) (m ++ [b], 0) := by
 obtain ⟨v1, v2, v3⟩ := hm; rw [List.length_append, List.length_singleton] at v1; have hm1 : okL m := ⟨rae, (List.pairwise_append.1 v2).1, fun y hy => v3 y (List.mem_append_left _ hy)⟩; have hb1 : oneV b := v3 b rav; have hlt : ∀ x ∈ m, cB (ckB x) (ckB b) < 0 := fun x hx => (List.pairwise_append.1 v2).2.2 x hx b (List.mem_singleton.2 rfl); obtain ⟨b1, hb⟩ := validBS_ev m rae (fun y hy => (hm1.2.2 y hy).1); have hbt : b1 = true := Ev_one ⟨4000001, fun k hk => (hb k rae).1⟩ hm1.ev; have e2 : Ev (fun k => aq_.f k m) true := ⟨4000001, fun k hk => (hb k rae).2.trans (by rw [hbt])⟩; have g2 : Ev (fun k => bo_.f k b.f0 b.f1 b.f2) true := ⟨2000001, fun k hk => ((Vb_of hb1).2 k rae).1⟩; have f2 := ibs_end m rae b.f0 b.f1 b.f2 hlt; have cl : cU_.f m = some m := by unfold cU_.f; rw [if_pos rae]
 simp only [bS_.f]; refine Ev_b e2 (Ev_t rfl (Ev_b g2 (aO_ ?_))); simp only [bS_.j0]; refine Ev_f rah (Ev_b (Ev_c cl) (Ev_b f2 (Ev_f rav (Ev_f rae ?_)))); refine Ev_b (a := m ++ [b]) (Ev_c ?_) (Ev_n rfl); unfold cS_.f; simp only; rw [if_pos ⟨rae, rae, rae⟩, Int.toNat_natCast, List.take_length, List.drop_length, List.append_nil]
theorem isalv (s : ByteArray) (hs : (s.size : Int) ≤ 1048576) (P : List ByteArray) (hP : lns s = P) (n : Nat) (hn : n + 1 = P.length) (hn0 : 1 ≤ n) (R : List Blk) (hR : R.length + 1 = n) (hv : okL R)
  (h : ∀ i (hi : i < R.length), Ev (fun k => ap_.f k (P[i + 1]'rae)) ((R[i].f0, R[i].f1, R[i].f2, 0) : P4)) : Ev (fun k => aT_.f k s) R := by
 have hl := lns_len s; have hsp := split_i s hs; rw [hP] at hl hsp; have e : wrap64 ((P.length : Int) - 1) = (n : Int) := by rw [wr64 rae rae]; omega
 have go : ∀ (S T : List Blk), T ++ S = R → Ev (fun k => aT_.l0 k P T ((T.length + 1 : Nat) : Int)) R := by
  intro S
  induction S with
  | nil =>
   intro T hT; rw [List.append_nil] at hT; subst hT; refine aO_ ?_; simp only [aT_.l0]; rw [e]; exact Ev_f rae (Ev_n rfl)
  | cons o S ih =>
   intro T hT; have hlR : R.length = T.length + 1 + S.length := by rw [← hT]; simp; omega
   have p2 := h T.length rae; have ho : R[T.length]'rae = o := by subst hT; simp
   rw [ho] at p2; have nx := ih (T ++ [o]) (by simpa using hT); rw [show (T ++ [o]).length = T.length + 1 by simp] at nx
   have hok : okL (T ++ [o]) := by
    have h2 := hv; rw [← hT, show T ++ o :: S = (T ++ [o]) ++ S by simp] at h2; obtain ⟨v1, v2, v3⟩ := h2; exact ⟨by rw [List.length_append] at v1; omega, (List.pairwise_append.1 v2).1, fun y hy => v3 y (List.mem_append_left _ hy)⟩
   have u2 := iput_end T o hok; refine aO_ ?_; simp only [aT_.l0]; rw [e, rdO_in P (T.length + 1) rae, wr64s (T.length + 1) rae]; exact Ev_t rae (Ev_t rae (Ev_t rae (Ev_b p2 (Ev_t rfl (Ev_b u2 (Ev_t rfl nx))))))
 simp only [aT_.f]; refine Ev_b (Ev_c hsp) ?_; exact go R [] rfl
theorem spl_joinc (c : UInt8) : ∀ L : List (List UInt8), L ≠ [] → (∀ x ∈ L, c ∉ x) → spl c (Go.Lib.join L [c]) = L
 | [], h, _ => absurd rfl h
 | [x], _, h => by
  rw [join_one]; exact splM c x (h x (List.mem_cons_self ..))
 | x :: y :: r, _, h => by
  rw [dC_, splH c x _ (h x (List.mem_cons_self ..)), spl_joinc c (y :: r) rav (fun z hz => h z (List.mem_cons_of_mem _ hz))]
theorem join_len (c : UInt8) (n : Nat) : ∀ L : List (List UInt8), (∀ x ∈ L, x.length ≤ n) → (Go.Lib.join L [c]).length ≤ L.length * (n + 1)
 | [], _ => by
  simp [Go.Lib.join, List.intercalate]
 | [x], h => by
  rw [join_one]; have := h x (List.mem_cons_self ..); simp only [List.length_cons, List.length_nil]
  omega
 | x :: y :: r, h => by
  have ih := join_len c n (y :: r) (fun z hz => h z (List.mem_cons_of_mem _ hz)); have h1 := h x (List.mem_cons_self ..); rw [dC_, List.length_append, List.length_cons]
  have e : (x :: y :: r).length * (n + 1) = (y :: r).length * (n + 1) + (n + 1) := by
   rw [List.length_cons, Nat.add_mul, Nat.one_mul]
  omega
theorem join_mem (c : UInt8) : ∀ (L : List (List UInt8)) (b : UInt8), b ∈ Go.Lib.join L [c] → b = c ∨ ∃ x ∈ L, b ∈ x
 | [], b, h => by
  simp [Go.Lib.join, List.intercalate] at h
 | [x], b, h => by
  rw [join_one] at h; exact Or.inr ⟨x, List.mem_cons_self .., h⟩
 | x :: y :: r, b, h => by
  rw [dC_] at h
  rcases List.mem_append.1 h with g | g
  ·exact Or.inr ⟨x, List.mem_cons_self .., g⟩
  ·rcases List.mem_cons.1 g with e | e
   ·exact Or.inl e
   ·rcases join_mem c (y :: r) b e with q | ⟨z, z1, z2⟩
    ·exact Or.inl q
    ·exact Or.inr ⟨z, List.mem_cons_of_mem _ z1, z2⟩
def smN (n : Int) : Prop := 0 ≤ n ∧ n ≤ 1000
theorem dec_small : ∀ n, n ≤ 1000 → rdl (Go.Lib.decDigits n) = ((n : Int), true) ∧ (Go.Lib.decDigits n).length ≤ 4 := by decide +kernel
theorem sm_its {n : Int} (h : smN n) : ∃ u : Nat, n = (u : Int) ∧ u ≤ 1000 ∧ its n = Bs (Go.Lib.decDigits u) := by
 unfold smN at h; refine ⟨n.toNat, rae, rae, ?_⟩; have e : n = ((n.toNat : Nat) : Int) := by omega
 conv => lhs; rw [e]
 unfold its; rw [itoa_pos]
theorem sm_rd {n : Int} (h : smN n) : rdec (its n) = (n, true) := by
 obtain ⟨u, e, hu, hi⟩ := sm_its h; rw [hi, e]; unfold rdec; rw [ck_]; exact (dec_small u hu).1
theorem sm_len {n : Int} (h : smN n) : (its n).data.toList.length ≤ 4 := by
 obtain ⟨u, e, hu, hi⟩ := sm_its h; rw [hi, ck_]; exact (dec_small u hu).2
theorem sm_dig {n : Int} (h : smN n) : ∀ b ∈ (its n).data.toList, 48 ≤ b.toNat ∧ b.toNat ≤ 57 := by
 obtain ⟨u, e, hu, hi⟩ := sm_its h; rw [hi, ck_]; exact dec_ch u
theorem sm_nm {n : Int} (h : smN n) : nmOk n := by
 unfold smN at h; unfold nmOk
 omega
theorem sp_byte {l : List UInt8} (h : 0 ≤ spi l) : l.length ≤ 8 ∧ ∀ b ∈ l, 97 ≤ b.toNat ∧ b.toNat ≤ 122 := by
 rcases sp_cases l with rfl | rfl | rfl | rfl | rfl | rfl | rfl | rfl | rfl | rfl | ⟨h0, h1, h2, h3, h4, h5, h6, h7, h8, h9⟩
 case inr.inr.inr.inr.inr.inr.inr.inr.inr.inr =>
  unfold spi at h; rw [if_neg h0, if_neg h1, if_neg h2, if_neg h3, if_neg h4, if_neg h5, if_neg h6, if_neg h7, if_neg h8, if_neg h9] at h
  omega
 all_goals exact ⟨rah, rah⟩
theorem vv_sp {l : List UInt8} {s g : Int} (h : vVen l s g = true) : 0 ≤ spi l ∧ smN s ∧ smN g := by
 have h2 := vVen_rg l s g h; unfold vVen at h; simp only [Bool.and_eq_true, decide_eq_true_eq] at h; unfold smN; exact ⟨h.1, rae, rae⟩
def idsL : List ByteArray := [(⟨#[97]⟩ : ByteArray), (⟨#[98]⟩ : ByteArray), (⟨#[99]⟩ : ByteArray), (⟨#[100]⟩ : ByteArray)]
def dlf (x : Lf) : Prop := x.f0 ∈ idsL ∧ dleaf x
def ptsL (x : Lf) : List (List UInt8) := (lPs x ++ x.f6.map bTx).map (·.data.toList)
def txL (x : Lf) : List UInt8 := Go.Lib.join (ptsL x) [47]
theorem bx_sm {x : Lf} (h : dleaf x) : ∀ b ∈ x.f6, smN b.f0 ∧ smN b.f1 ∧ smN b.f2 ∧ smN b.f3 := by
 intro b hb; have h1 := h.2.2.2.2.2.2.2.2 b hb; have h2 := h.2.2.2.2.2.1; have h3 := h.2.2.2.2.2.2.1; unfold dbox at h1; unfold smN
 omega
theorem gb_bytes : ∀ (l : List UInt8), (∀ b ∈ l, (48 ≤ b.toNat ∧ b.toNat ≤ 122) ∨ b = 32 ∨ b = 44) → (47 : UInt8) ∉ l ∧ (10 : UInt8) ∉ l := by
 intro l h; refine ⟨fun g => ?_, fun g => ?_⟩
 ·rcases h _ g with ⟨a, b⟩ | a | a
  ·revert a; decide
  ·revert a; decide
  ·revert a; decide
 ·rcases h _ g with ⟨a, b⟩ | a | a
  ·revert a; decide
  ·revert a; decide
  ·revert a; decide
theorem bTx_eq {x : Lf} (b : Bx) : (bTx b).data.toList = Go.Lib.join (itl (bLi b)) [44] := by
 unfold bTx LT_; rw [if_neg (by unfold bLi; simp), ck_, icat_eq]
theorem itl_pt {b : Bx} (h : smN b.f0 ∧ smN b.f1 ∧ smN b.f2 ∧ smN b.f3) : ∀ l ∈ itl (bLi b), l.length ≤ 4 ∧ ∀ c ∈ l, 48 ≤ c.toNat ∧ c.toNat ≤ 57 := by
 have one : ∀ n : Int, smN n → (Go.Lib.itoa n).length ≤ 4 ∧ ∀ c ∈ Go.Lib.itoa n, 48 ≤ c.toNat ∧ c.toNat ≤ 57 := by
  intro n hn; have h1 := sm_len hn; have h2 := sm_dig hn; unfold its at h1 h2; rw [ck_] at h1 h2; exact ⟨h1, h2⟩
 intro l hl; unfold itl bLi at hl; simp only [List.map_cons, List.map_nil, List.mem_cons, List.not_mem_nil, or_false] at hl
 rcases hl with rfl | rfl | rfl | rfl
 ·exact one _ h.1
 ·exact one _ h.2.1
 ·exact one _ h.2.2.1
 ·exact one _ h.2.2.2
theorem pt_ok {x : Lf} (h : dlf x) : ∀ l ∈ ptsL x, l.length ≤ 20 ∧ ∀ b ∈ l, (48 ≤ b.toNat ∧ b.toNat ≤ 122) ∨ b = 32 ∨ b = 44 := by
 obtain ⟨hid, hd⟩ := h; have hbx := bx_sm hd; obtain ⟨_, hf, n2, z3, vv, n4, n5, l6, _⟩ := hd; obtain ⟨s0, s1, s2⟩ := vv_sp vv; rw [Go.ByteArray.toList_eq] at s0; obtain ⟨sl, sb⟩ := sp_byte s0; have m2 : smN x.f2 := by unfold smN; omega
 have m4 : smN x.f4 := by unfold smN; omega
 have m5 : smN x.f5 := by unfold smN; omega
 intro l hl; unfold ptsL lPs at hl; rw [List.map_append, List.map_map] at hl
 rcases List.mem_append.1 hl with g | g
 ·simp only [List.map_cons, List.map_nil, List.mem_cons, List.not_mem_nil, or_false] at g
  rcases g with rfl | rfl | rfl | rfl | rfl
  ·unfold idsL at hid; simp only [List.mem_cons, List.not_mem_nil, or_false] at hid
   rcases hid with e | e | e | e <;> rw [e] <;> exact ⟨rah, rah⟩
  ·rcases hf with e | e <;> rw [e] <;> exact ⟨rah, rah⟩
  ·exact ⟨by have := sm_len m2; omega, fun b hb => Or.inl (by have := sm_dig m2 b hb; omega)⟩
  ·have e : (vtx x.f3.f0 x.f3.f1 x.f3.f2).data.toList = x.f3.f0.data.toList ++ [32] ++ (its x.f3.f1).data.toList ++ [32] ++ (its x.f3.f2).data.toList := by
    unfold vtx
    simp
   rw [e]; have q1 := sm_len s1; have q2 := sm_len s2; refine ⟨by simp only [List.length_append, List.length_singleton]; omega, fun b hb => ?_⟩; simp only [List.mem_append, List.mem_singleton] at hb
   rcases hb with (((g | g) | g) | g) | g
   ·exact Or.inl (by have := sb b g; omega)
   ·exact Or.inr (Or.inl g)
   ·exact Or.inl (by have := sm_dig s1 b g; omega)
   ·exact Or.inr (Or.inl g)
   ·exact Or.inl (by have := sm_dig s2 b g; omega)
  ·have e : ((its x.f4 ++ (⟨#[120]⟩ : ByteArray)) ++ its x.f5).data.toList = (its x.f4).data.toList ++ [120] ++ (its x.f5).data.toList := by simp
   rw [e]; have q1 := sm_len m4; have q2 := sm_len m5; refine ⟨by simp only [List.length_append, List.length_singleton]; omega, fun b hb => ?_⟩; simp only [List.mem_append, List.mem_singleton] at hb
   rcases hb with (g | g) | g
   ·exact Or.inl (by have := sm_dig m4 b g; omega)
   ·rw [g]; exact Or.inl rah
   ·exact Or.inl (by have := sm_dig m5 b g; omega)
 ·obtain ⟨b, hb, rfl⟩ := List.mem_map.1 g; have hb4 := itl_pt (hbx b hb); show ((bTx b).data.toList).length ≤ 20 ∧ ∀ c ∈ (bTx b).data.toList, _; rw [bTx_eq (x := x)]; refine ⟨?_, fun c hc => ?_⟩
  ·have := join_len 44 4 (itl (bLi b)) (fun l hl => (hb4 l hl).1); have e : (itl (bLi b)).length = 4 := rfl; rw [e] at this
   omega
  ·rcases join_mem 44 _ c hc with e | ⟨l, l1, l2⟩
   ·exact Or.inr (Or.inr e)
   ·exact Or.inl (by have := (hb4 l l1).2 c l2; omega)
theorem pt_len {x : Lf} (h : dlf x) : (ptsL x).length ≤ 8 := by
 have := h.2.2.2.2.2.2.2.2.1; unfold ptsL lPs; simp only [List.length_map, List.length_append, List.length_cons, List.length_nil]
 omega
theorem tx_len {x : Lf} (h : dlf x) : (txL x).length ≤ 168 := by
 have h1 := join_len 47 20 (ptsL x) (fun l hl => (pt_ok h l hl).1); have h2 := pt_len h; have h3 : (ptsL x).length * 21 ≤ 8 * 21 := Nat.mul_le_mul h2 (Nat.le_refl _); unfold txL
 omega
theorem tx_no10 {x : Lf} (h : dlf x) : (10 : UInt8) ∉ txL x := by
 intro g
 rcases join_mem 47 _ _ g with e | ⟨l, l1, l2⟩
 ·revert e; decide
 ·exact (gb_bytes l (pt_ok h l l1).2).2 l2
theorem tx_spl {x : Lf} (h : dlf x) : spl 47 (txL x) = ptsL x := spl_joinc 47 _ (by unfold ptsL lPs; simp) (fun l hl => (gb_bytes l (pt_ok h l hl).2).1)
theorem pts_map (x : Lf) : (ptsL x).map Bs = lPs x ++ x.f6.map bTx := by
 unfold ptsL; rw [List.map_map]
 have : (Bs ∘ fun y : ByteArray => y.data.toList) = id := by
  funext y
  simp [Function.comp, co_]
 rw [this, List.map_id]
theorem ird_list (q : List Int) (h4 : q.length = 4) (hq : ∀ n ∈ q, smN n) : Ev (fun k => by_.f k (LT_ q)) (q, true) := by
 have hne : q ≠ [] := fun e => by
  rw [e] at h4
  simp at h4
 have hpt : ∀ l ∈ itl q, l.length ≤ 4 ∧ ∀ c ∈ l, 48 ≤ c.toNat ∧ c.toNat ≤ 57 := by
  intro l hl; unfold itl at hl; obtain ⟨n, hn, rfl⟩ := List.mem_map.1 hl; have h1 := sm_len (hq n hn); have h2 := sm_dig (hq n hn); unfold its at h1 h2; rw [ck_] at h1 h2; exact ⟨h1, h2⟩
 have hil : (itl q).length = 4 := by unfold itl; rw [List.length_map]; exact h4
 have hlt : LT_ q = Bs (Go.Lib.join (itl q) [44]) := by unfold LT_; rw [if_neg hne, icat_eq]
 have hlen := join_len 44 4 (itl q) (fun l hl => (hpt l hl).1); rw [hil] at hlen; have hspl : spl 44 (Go.Lib.join (itl q) [44]) = itl q := spl_joinc 44 _ (fun e => by rw [e] at hil; simp at hil) (fun l hl g => by have := (hpt l hl).2 _ g; revert this; decide)
 have hsp : strings_Split.f (LT_ q) (⟨#[44]⟩ : ByteArray) = some (q.map its) := by
  have := split_f (LT_ q) (by rw [hlt, bP_]; omega) 44; rw [hlt, ck_, hspl, ← hlt] at this; rw [show (⟨#[44]⟩ : ByteArray) = Bs [44] from rfl, this]; unfold itl its; rw [List.map_map]; rfl
 have hPl : (q.map its).length = 4 := by rw [List.length_map]; exact h4
 have go : ∀ (S T : List Int), T ++ S = q → Ev (fun k => by_.l0 k T (q.map its) ((q.map its).length : Int) (T.length : Int)) (q, true) := by
  intro S
  induction S with
  | nil =>
   intro T hT; rw [List.append_nil] at hT; subst hT; refine aO_ ?_; simp only [by_.l0]; exact Ev_f rae (Ev_f rae (Ev_n rfl))
  | cons n S ih =>
   intro T hT; have hl : q.length = T.length + 1 + S.length := by rw [← hT]; simp; omega
   have hn : smN n := hq n (by rw [← hT]; simp)
   have r1 : rdOf be_ (q.map its) (T.length : Int) = its n := by
    rw [rdO_in _ T.length (by rw [List.length_map]; omega), List.getElem_map]
    congr 1
    subst hT
    simp
   have nx := ih (T ++ [n]) (by simpa using hT); rw [show (T ++ [n]).length = T.length + 1 by simp] at nx; have i1 := dr_ (its n); rw [sm_rd hn] at i1; refine aO_ ?_; simp only [by_.l0]; rw [r1, wr64s T.length rae]; exact Ev_t rae (Ev_t rae (Ev_t rae (Ev_b i1 (Ev_t rfl (Ev_b (Ev_c (okW _ (sm_nm hn))) (Ev_t rfl (Ev_t rae nx)))))))
 simp only [by_.f]; refine Ev_f ?_ (Ev_b (Ev_c hsp) (go q [] rfl)); intro e; rw [hlt, Go.ByteArray.toList_eq, ck_] at e; have h45 : spl 44 (Go.Lib.join (itl q) [44]) = [[45]] := by rw [e]; rfl
 rw [hspl] at h45; rw [h45] at hil
 simp at hil
theorem ird_box {b : Bx} (h : smN b.f0 ∧ smN b.f1 ∧ smN b.f2 ∧ smN b.f3) : Ev (fun k => cc_.f k (bTx b)) (b.f0, b.f1, b.f2, b.f3, true) := by
 have e := ird_list (bLi b) rfl (by
  intro n hn; unfold bLi at hn; simp only [List.mem_cons, List.not_mem_nil, or_false] at hn
  rcases hn with rfl | rfl | rfl | rfl
  ·exact h.1
  ·exact h.2.1
  ·exact h.2.2.1
  ·exact h.2.2.2)
 simp only [cc_.f]; have hl : (bLi b).length = 4 := rfl; exact Ev_b e (Ev_t rfl (Ev_t (by simp [bLi]) (Ev_t (by simp [bLi]) (Ev_t (by simp [bLi]) (Ev_t (by simp [bLi]) (Ev_t (by simp [bLi]) (Ev_n rfl)))))))
theorem ird_ven {a : ByteArray} {m n : Int} (hv : vVen a.toList m n = true) (hz : a.size ≤ 8) : Ev (fun k => cx_.f k (vtx a m n)) (a, m, n, true) := by
 obtain ⟨s0, s1, s2⟩ := vv_sp hv; rw [Go.ByteArray.toList_eq] at s0; obtain ⟨sl, sb⟩ := sp_byte s0
 have e : vtx a m n = Bs (Go.Lib.join [a.data.toList, (its m).data.toList, (its n).data.toList] [32]) := by
  rw [dC_, dC_, join_one]; unfold vtx; rw [← co_ a, ← co_ (its m), ← co_ (its n), show (⟨#[32]⟩ : ByteArray) = Bs [32] from rfl, cy_, cy_, cy_, cy_]
  congr 1
  simp
 have q1 := sm_len s1; have q2 := sm_len s2
 have hl : (Go.Lib.join [a.data.toList, (its m).data.toList, (its n).data.toList] [32]).length ≤ 100 := by
  rw [dC_, dC_, join_one]; simp only [List.length_append, List.length_cons]
  omega
 have hspl : strings_Split.f (vtx a m n) (⟨#[32]⟩ : ByteArray) = some [a, its m, its n] := by
  have := split_f (vtx a m n) (by rw [e, bP_]; omega) 32; rw [show (⟨#[32]⟩ : ByteArray) = Bs [32] from rfl, this, e, ck_, spl_joinc 32 _ rav (by
   intro x hx; simp only [List.mem_cons, List.not_mem_nil, or_false] at hx
   rcases hx with rfl | rfl | rfl
   ·intro g; have := sb _ g; revert this
    decide
   ·intro g; have := sm_dig s1 _ g; revert this
    decide
   ·intro g; have := sm_dig s2 _ g; revert this
    decide)]
  simp only [List.map_cons, List.map_nil, co_]
 have r0 : rdOf be_ [a, its m, its n] 0 = a := rfl; have r1 : rdOf be_ [a, its m, its n] 1 = its m := rfl; have r2 : rdOf be_ [a, its m, its n] 2 = its n := rfl; have i1 := dr_ (its m); have i2 := dr_ (its n); rw [sm_rd s1] at i1; rw [sm_rd s2] at i2; have v2 := iValidVeneer_f a m n; rw [hv] at v2; simp only [cx_.f]; rw [hspl]; refine Ev_s (Ev_t rav (Ev_t rav ?_)); rw [r1, r2, r0]; exact Ev_b i1 (Ev_t rav (Ev_b i2 (Ev_t rav (Ev_t rfl (Ev_t rfl (Ev_b (Ev_c v2) (Ev_t rfl (Ev_n rfl))))))))
theorem ird_size {w h : Int} (hw : smN w) (hh : smN h) : Ev (fun k => cQ_.f k ((its w ++ (⟨#[120]⟩ : ByteArray)) ++ its h)) (w, h, true) := by
 obtain ⟨A, hA⟩ : ∃ A, A = (its w).data.toList := ⟨_, rfl⟩; obtain ⟨B, hB⟩ : ∃ B, B = (its h).data.toList := ⟨_, rfl⟩; have eA : its w = Bs A := by rw [hA, co_]
 have eB : its h = Bs B := by rw [hB, co_]
 have nA : (120 : UInt8) ∉ A := fun g => by
  rw [hA] at g; have := sm_dig hw _ g; revert this
  decide
 have nB : (120 : UInt8) ∉ B := fun g => by
  rw [hB] at g; have := sm_dig hh _ g; revert this
  decide
 have q1 := sm_len hw; have q2 := sm_len hh; rw [← hA] at q1; rw [← hB] at q2
 have e : (its w ++ (⟨#[120]⟩ : ByteArray)) ++ its h = Bs (A ++ 120 :: B) := by
  rw [eA, eB, show (⟨#[120]⟩ : ByteArray) = Bs [120] from rfl, cy_, cy_]
  congr 1
  simp
 have hs : spl 120 (A ++ 120 :: B) = [A, B] := by rw [splH 120 A B nA, splM 120 B nB]
 have hc : Go.Lib.cut (A ++ 120 :: B) [120] = (A, B, true) := by
  have hge := Go.Lib.index_ge (A ++ 120 :: B) [120]; by_cases hm : Go.Lib.index (A ++ 120 :: B) [120] = -1; rotate_left
  ·obtain ⟨j, hj⟩ : ∃ j : Nat, Go.Lib.index (A ++ 120 :: B) [120] = j := ⟨(Go.Lib.index (A ++ 120 :: B) [120]).toNat, rae⟩; have h1 := spl_hit 120 _ j hj; rw [hs, List.cons.injEq] at h1; obtain ⟨h2, h3⟩ := h1; have h4 := join_spl 120 ((A ++ 120 :: B).drop (j + 1)); rw [← h3, join_one] at h4; unfold Go.Lib.cut; rw [if_pos rae, hj]; simp only [Int.toNat_natCast, List.length_singleton]; rw [← h2, ← h4]
  have h1 := spl_miss 120 _ hm; rw [hs] at h1
  simp at h1
 have hcut : strings_Cut.f (Bs (A ++ 120 :: B)) (⟨#[120]⟩ : ByteArray) = some (Bs A, Bs B, true) := by
  unfold strings_Cut.f; rw [if_pos (by rw [bP_]; simp only [List.length_append, List.length_cons]; omega), ck_, show (⟨#[120]⟩ : ByteArray).data.toList = [120] from rfl, hc]
 have i1 := dr_ (Bs A); have i2 := dr_ (Bs B); rw [← eA, sm_rd hw] at i1; rw [← eB, sm_rd hh] at i2; rw [e]; simp only [cQ_.f]; rw [hcut, ← eA, ← eB]; exact Ev_s (Ev_b i1 (Ev_b i2 (Ev_t rfl (Ev_t rfl (Ev_n rfl)))))
theorem iname_ev {x : ByteArray} (h : al_.f 13 x = some true) : Ev (fun k => al_.f k x) true := by
 obtain ⟨b, hb⟩ := name_ev x; have e := hb 13 rae; rw [h] at e; have e2 : true = b := Option.some.inj e; exact ⟨13, fun k hk => (hb k rae).trans (by rw [e2])⟩
theorem ids_name : ∀ x ∈ idsL, al_.f 13 x = some true := by decide +kernel
theorem fl_name : al_.f 13 (⟨#[102, 49]⟩ : ByteArray) = some true ∧ al_.f 13 (⟨#[102, 50]⟩ : ByteArray) = some true := by decide +kernel
theorem dlf_ok {x : Lf} (h : dlf x) : lOk x := by
 obtain ⟨hid, _, hf, n2, z3, vv, n4, n5, l6, hb⟩ := h; refine ⟨rae, vv, rae, rae, rae, fun b hb2 => ?_⟩; have h1 := hb b hb2; unfold dbox at h1; unfold bOk
 omega
theorem ibox_ok {b : Bx} {w h : Int} (hd : dbox b w h) (hw : 100 ≤ w ∧ w < 1000) (hh : 100 ≤ h ∧ h < 1000) : cF_.f b.f0 b.f1 b.f2 b.f3 w h = some true := by
 unfold dbox at hd; unfold cF_.f; simp only [within_f, ob_]; rw [det (show (0 : Int) ≤ b.f0 by omega), det (show b.f0 ≤ w by omega), det (show (0 : Int) ≤ b.f1 by omega), det (show b.f1 ≤ h by omega), det (show (1 : Int) ≤ b.f2 by omega), det (show (1 : Int) ≤ b.f3 by omega)]; rw [wr64 (x := w - b.f0) rae rae, wr64 (x := h - b.f1) rae rae, det (show b.f2 ≤ w - b.f0 by omega), det (show b.f3 ≤ h - b.f1 by omega)]; rfl
theorem ivalid_leaf {x : Lf} (h : dlf x) : Ev (fun k => bf_.f k x.f0 x.f1 x.f2 x.f3.f0 x.f3.f1 x.f3.f2 x.f4 x.f5 x.f6) true := by
 obtain ⟨hid, _, hf, n2, z3, vv, n4, n5, l6, hb⟩ := h; have a1 := iname_ev (ids_name x.f0 hid)
 have b1 : Ev (fun k => al_.f k x.f1) true := by
  rcases hf with e | e <;> rw [e]
  ·exact iname_ev fl_name.1
  ·exact iname_ev fl_name.2
 have n3' : as_.f x.f2 0 999 = some true := by rw [within_f, det (show (0 : Int) ≤ x.f2 by omega), det (show x.f2 ≤ 999 by omega)]; rfl
 have w5' : as_.f x.f4 10 20000 = some true := by rw [within_f, det (show (10 : Int) ≤ x.f4 by omega), det (show x.f4 ≤ 20000 by omega)]; rfl
 have w6' : as_.f x.f5 10 20000 = some true := by rw [within_f, det (show (10 : Int) ≤ x.f5 by omega), det (show x.f5 ≤ 20000 by omega)]; rfl
 have v2 := iValidVeneer_f x.f3.f0 x.f3.f1 x.f3.f2; rw [vv] at v2
 have go : ∀ (d i : Nat), i + d = x.f6.length → Ev (fun k => bZ_.l0 k x.f6 (x.f6.length : Int) i [(⟨x.f0, x.f1, x.f2, ⟨x.f3.f0, x.f3.f1, x.f3.f2⟩, x.f4, x.f5, x.f6⟩ : Lf)]) (-1) := by
  intro d
  induction d with
  | zero =>
   intro i h; refine aO_ ?_; simp only [bZ_.l0]; exact Ev_f rae (Ev_n rfl)
  | succ d ih =>
   intro i h; have hi : i < x.f6.length := by omega
   have hr : aF_ x.f6 (i : Int) = x.f6[i] := by unfold aF_; exact getD_in x.f6 _ i hi
   have u2 := ibox_ok (hb _ (List.getElem_mem hi)) n4 n5
   have cl : cA_.f x.f6[i].f0 x.f6[i].f1 x.f6[i].f2 x.f6[i].f3 [(⟨x.f0, x.f1, x.f2, ⟨x.f3.f0, x.f3.f1, x.f3.f2⟩, x.f4, x.f5, x.f6⟩ : Lf)] = some false := by
    unfold cA_.f; rw [if_pos rav]; have e : aa_ [(⟨x.f0, x.f1, x.f2, ⟨x.f3.f0, x.f3.f1, x.f3.f2⟩, x.f4, x.f5, x.f6⟩ : Lf)] 0 = x := rfl; rw [e, u2]; rfl
   refine aO_ ?_; simp only [bZ_.l0]; rw [hr, wr64s i rae]; exact Ev_t rae (Ev_t rae (Ev_t rae (Ev_b (Ev_c cl) (Ev_f rah (ih (i + 1) rae)))))
 have g2 := go x.f6.length 0 rae
 have h2 : Ev (fun k => bf_.j0 k false x.f0 x.f1 x.f2 x.f3.f0 x.f3.f1 x.f3.f2 x.f4 x.f5 x.f6) true := by
  refine aO_ ?_; simp only [bf_.j0]; refine Ev_f rah (Ev_b (Ev_c w5') (Ev_t rfl (Ev_b (Ev_c w6') (Ev_t rfl (Ev_f rae (Ev_b (a := false) ?_ (Ev_n rfl))))))); simp only [impl_Box_92.f, bZ_.f]; exact Ev_b g2 (Ev_n rfl)
 simp only [bf_.f]; exact Ev_b a1 (Ev_t rfl (Ev_b b1 (Ev_t rfl (Ev_b (Ev_c n3') (Ev_t rfl (Ev_b (Ev_c v2) h2))))))
theorem bx_nm {x : Lf} (h : dlf x) : ∀ b ∈ x.f6, ∀ n ∈ bLi b, nmOk n := by
 intro b hb n hn; have h1 := bx_sm h.2 b hb; unfold bLi at hn; simp only [List.mem_cons, List.not_mem_nil, or_false] at hn
 rcases hn with rfl | rfl | rfl | rfl
 ·exact sm_nm h1.1
 ·exact sm_nm h1.2.1
 ·exact sm_nm h1.2.2.1
 ·exact sm_nm h1.2.2.2
theorem itext {x : Lf} (h : dlf x) : Ev (fun k => ba_.f k x.f0 x.f1 x.f2 x.f3.f0 x.f3.f1 x.f3.f2 x.f4 x.f5 x.f6) (Bs (txL x)) := by
 have hl := tx_len h; exact ltext_ev x (Bs (txL x)) ra3 (by rw [ck_, tx_spl h, pts_map]) (dlf_ok h) (bx_nm h) (ivalid_leaf h)
theorem ird_leaf {x : Lf} (h : dlf x) : Ev (fun k => aJ_.f k (Bs (txL x))) (rL x) := by
 have hl := tx_len h; have hbx := bx_sm h.2; have ht := itext h; obtain ⟨hid, _, hf, n2, z3, vv, n4, n5, l6, hb⟩ := h; have h : dlf x := ⟨hid, ram, hf, n2, z3, vv, n4, n5, l6, hb⟩; have m2 : smN x.f2 := by unfold smN; omega
 have m4 : smN x.f4 := by unfold smN; omega
 have m5 : smN x.f5 := by unfold smN; omega
 have hspl : strings_Split.f (Bs (txL x)) (⟨#[47]⟩ : ByteArray) = some (lPs x ++ x.f6.map bTx) := by
  have := split_f (Bs (txL x)) ra3 47; rw [ck_, tx_spl h, pts_map] at this; exact this
 obtain ⟨P, hP⟩ : ∃ P, P = lPs x ++ x.f6.map bTx := ⟨_, rfl⟩; rw [← hP] at hspl; have hPl : P.length = x.f6.length + 5 := by rw [hP]; simp [lPs]
 have r0 : rdOf be_ P 0 = x.f0 := by rw [hP]; rfl
 have r1 : rdOf be_ P 1 = x.f1 := by rw [hP]; rfl
 have r2 : rdOf be_ P 2 = its x.f2 := by rw [hP]; rfl
 have r3 : rdOf be_ P 3 = vtx x.f3.f0 x.f3.f1 x.f3.f2 := by rw [hP]; rfl
 have r4 : rdOf be_ P 4 = (its x.f4 ++ (⟨#[120]⟩ : ByteArray)) ++ its x.f5 := by rw [hP]; rfl
 have d5 : P.drop 5 = x.f6.map bTx := by rw [hP]; rfl
 have i1 := dr_ (its x.f2); rw [sm_rd m2] at i1; have i2 := ird_ven vv z3; have i3 := ird_size m4 m5; obtain ⟨Y, hY⟩ : ∃ Y, Y = x.f6.map bTx := ⟨_, rfl⟩; have hYl : Y.length = x.f6.length := by rw [hY, List.length_map]
 have il : ∀ (S T : List Bx), T ++ S = x.f6 → Ev (fun k => aJ_.l0 k (Bs (txL x)) P Y (Y.length : Int) (T.length : Int) x.f0 x.f1 x.f2 x.f3.f0 x.f3.f1 x.f3.f2 x.f4 x.f5 T) (rL x) := by
  intro S
  induction S with
  | nil =>
   intro T hT; rw [List.append_nil] at hT; refine aO_ ?_; simp only [aJ_.l0]; rw [hT]; exact Ev_f rae (Ev_b ht (Ev_t rav (Ev_n rfl)))
  | cons b S ih =>
   intro T hT; have hll : x.f6.length = T.length + 1 + S.length := by rw [← hT]; simp; omega
   have hbm : b ∈ x.f6 := by rw [← hT]; simp
   have ry : rdOf be_ Y (T.length : Int) = bTx b := by
    rw [rdO_in Y T.length rae]; subst hY; rw [List.getElem_map]
    congr 1
    simp [← hT]
   have nx := ih (T ++ [b]) (by simpa using hT); rw [show (T ++ [b]).length = T.length + 1 by simp] at nx; have hbr := ird_box (hbx b hbm); refine aO_ ?_; simp only [aJ_.l0]; rw [ry, wr64s T.length rae]; exact Ev_t rae (Ev_t rae (Ev_t rae (Ev_b hbr (Ev_t (by first | rfl | trivial) (Ev_t rae nx)))))
 have i0 := il x.f6 [] rfl; simp only [aJ_.f]; rw [hspl]; refine Ev_s (Ev_f rae (Ev_t rae ?_)); rw [r2, r3, r4]; refine Ev_b i1 (Ev_t rae (Ev_b i2 (Ev_t rae (Ev_b i3 (Ev_t rfl (Ev_t rfl (aO_ ?_))))))); simp only [aJ_.j0]; rw [r0, r1]; refine Ev_f rav (Ev_t rae (Ev_t rae (Ev_t rae (Ev_s ?_)))); rw [d5, ← hY]; exact i0
def dls (m : List Lf) : Prop := m.length ≤ 4 ∧ (∀ y ∈ m, dlf y) ∧ ∀ i (hi : i < m.length), m[i].f0 = idsL.getD i (⟨#[]⟩ : ByteArray)
theorem ids_less : ∀ i, i < 3 → Op.bytesLess ((idsL.getD i (⟨#[]⟩ : ByteArray)).toList) ((idsL.getD (i + 1) (⟨#[]⟩ : ByteArray)).toList) = true := by decide +kernel
theorem ivalid_leaves {m : List Lf} (h : dls m) : Ev (fun k => aB_.f k m) true := by
 obtain ⟨h4, hd, hi⟩ := h
 have go : ∀ (d i : Nat), i + d = m.length → Ev (fun k => aB_.l0 k m m (m.length : Int) i) true := by
  intro d
  induction d with
  | zero =>
   intro i h1; refine aO_ ?_; simp only [aB_.l0]; exact Ev_f rae (Ev_n (det rae))
  | succ d ih =>
   intro i h1; have hin : i < m.length := by omega
   have v2 := ivalid_leaf (hd _ (List.getElem_mem hin)); have b2 := ih (i + 1) rae; refine aO_ ?_; simp only [aB_.l0]; refine Ev_t rae (Ev_t rae (Ev_t rae ?_)); by_cases h0 : i = 0; rotate_left
   ·have e : wrap64 ((i : Int) - 1) = ((i - 1 : Nat) : Int) := by rw [wr64 rae rae]; omega
    have hc : Op.bytesLess ((m[i - 1]'rae).f0.toList) (m[i].f0.toList) = true := by
     have := ids_less (i - 1) rae; rw [show i - 1 + 1 = i by omega] at this; rw [hi i hin, hi (i - 1) rae]; exact this
    rw [e, rdi_Leaf m i hin, rdi_Leaf m (i - 1) rae, wr64s i rae]; exact Ev_b v2 (Ev_t rfl (Ev_t rae (Ev_t rae (Ev_t rae (Ev_t hc b2)))))
   rw [rdi_Leaf m i hin, wr64s i rae]; exact Ev_b v2 (Ev_t rfl (Ev_f rae b2))
 simp only [aB_.f]; exact go m.length 0 rae
def toK (x : Lf) : Blk := ⟨kLeaf, x.f0, Bs (txL x)⟩
theorem iblocks {m : List Lf} (h : dls m) : Ev (fun k => az_.f k m) (m.map toK, 0) := by
 have hv := ivalid_leaves h; obtain ⟨h4, hd, hi⟩ := h
 have go : ∀ (d i : Nat), i + d = m.length → Ev (fun k => az_.l0 k ((m.take i).map toK) m (m.length : Int) i) (m.map toK, 0) := by
  intro d
  induction d with
  | zero =>
   intro i h; refine aO_ ?_; simp only [az_.l0]; exact Ev_f rae (Ev_n (by rw [List.take_of_length_le rae]))
  | succ d ih =>
   intro i h; have hin : i < m.length := by omega
   have t2 := itext (hd _ (List.getElem_mem hin)); have g2 := ih (i + 1) rae; rw [List.take_succ_eq_append_getElem hin, List.map_append] at g2; refine aO_ ?_; simp only [az_.l0]; rw [rdi_Leaf m i hin, wr64s i rae]; exact Ev_t rae (Ev_t rae (Ev_t rae (Ev_b t2 (Ev_t rbk g2))))
 simp only [az_.f]; exact Ev_b hv (Ev_t rfl (go m.length 0 rae))
theorem ids_cB : ∀ i, i < 4 → ∀ j, j < 4 → i < j → cB (kLeaf.data.toList, (idsL.getD i (⟨#[]⟩ : ByteArray)).data.toList) (kLeaf.data.toList, (idsL.getD j (⟨#[]⟩ : ByteArray)).data.toList) < 0 := by decide +kernel
theorem ione {x : Lf} (h : dlf x) : oneV (toK x) := by
 have hl := tx_len h; have h10 := tx_no10 h; refine ⟨by show ((Bs (txL x)).size : Int) ≤ _; rw [bP_]; omega, ?_⟩
 have n1 : Ev (fun k => aW_.f k (toK x).f0) true := by
  have e := iname_ev (x := kLeaf) (by decide +kernel); exact ⟨e.choose, fun k hk => (name_same k kLeaf).trans (e.choose_spec k hk)⟩
 have n2 : Ev (fun k => aW_.f k (toK x).f1) true := by
  have e := iname_ev (ids_name x.f0 h.1); exact ⟨e.choose, fun k hk => (name_same k x.f0).trans (e.choose_spec k hk)⟩
 have r0 : ab_ [toK x] 0 = toK x := rfl; have hs : (toK x).f2.size = (txL x).length := bP_ _
 have go : ∀ (d i : Nat), i + d = (txL x).length → Ev (fun k => aC_.l0 k [toK x] i) true := by
  intro d
  induction d with
  | zero =>
   intro i hi; refine aO_ ?_; simp only [aC_.l0, r0]; exact Ev_t rav (Ev_f rae (Ev_b n1 (Ev_t rfl (Ev_b n2 (Ev_t rfl (Ev_n (det rae)))))))
  | succ d ih =>
   intro i hi; have hb : bt (toK x).f2 (i : Int) = ((txL x)[i]'rae).toNat := bt_in (txL x) i rae; refine aO_ ?_; simp only [aC_.l0, r0]; rw [hb, wr64s i rae]; refine Ev_t rav (Ev_t rae (Ev_t rae (Ev_f (fun e => ?_) (ih (i + 1) rae)))); have e2 : (txL x)[i]'rae = 10 := (u8_eq _ 10 rah).1 e; exact h10 (by rw [← e2]; exact List.getElem_mem _)
 simp only [aC_.f]; exact go (txL x).length 0 rae
theorem okK {m : List Lf} (h : dls m) : okL (m.map toK) := by
 obtain ⟨h4, hd, hi⟩ := h; refine ⟨by rw [List.length_map]; omega, ?_, fun y hy => ?_⟩
 ·rw [List.pairwise_iff_getElem]; intro i j h1 h2 h3; rw [List.length_map] at h1 h2; have := ids_cB i rae j rae h3; rw [← hi i h1, ← hi j h2] at this; rw [List.getElem_map, List.getElem_map]; exact this
 ·obtain ⟨x, hx, rfl⟩ := List.mem_map.1 hy; exact ione (hd x hx)
theorem ileaves {m : List Lf} (h : dls m) : Ev (fun k => aM_.f k (m.map toK)) (m, 0) := by
 have ok := okK h; obtain ⟨h4, hd, hi⟩ := h; have hml : (m.map toK).length = m.length := List.length_map ..; obtain ⟨b, hb⟩ := validBS_ev (m.map toK) rae (fun y hy => (ok.2.2 y hy).1); have hbt : b = true := Ev_one ⟨4000001, fun k hk => (hb k rae).1⟩ ok.ev; have b2 : Ev (fun k => aq_.f k (m.map toK)) true := ⟨4000001, fun k hk => (hb k rae).2.trans (by rw [hbt])⟩
 have go : ∀ (S T : List Lf), T ++ S = m → Ev (fun k => aM_.l0 k T (m.map toK) ((m.map toK).length : Int) (T.length : Int)) (m, 0) := by
  intro S
  induction S with
  | nil =>
   intro T hT; rw [List.append_nil] at hT; refine aO_ ?_; simp only [aM_.l0]; rw [hT]; exact Ev_f rae (Ev_f rae (Ev_n rfl))
  | cons x S ih =>
   intro T hT; have hll : m.length = T.length + 1 + S.length := by rw [← hT]; simp; omega
   have hx : x ∈ m := by rw [← hT]; simp
   have hr : ab_ (m.map toK) (T.length : Int) = toK x := by
    unfold ab_; rw [getD_in (m.map toK) _ T.length rae, List.getElem_map]
    congr 1
    subst hT
    simp
   have nx := ih (T ++ [x]) (by simpa using hT); rw [show (T ++ [x]).length = T.length + 1 by simp] at nx; have l2 := ird_leaf (hd x hx); refine aO_ ?_; simp only [aM_.l0]; rw [hr, wr64s T.length rae]; exact Ev_t rae (Ev_t rae (Ev_t rae (Ev_t (show kLeaf.toList = _ by decide +kernel) (Ev_b l2 (Ev_t rfl (Ev_t rfl (Ev_t rae nx)))))))
 simp only [aM_.f]; exact Ev_b b2 (Ev_t rfl (go m [] rfl))
theorem r8At_ok (c : List Int) (hc : u8s c) (i n : Int) (hi : 0 ≤ i) (hn : 1 ≤ n) (hn2 : n ≤ 1000) : ∃ t, cM_.f c i n = some t ∧ 0 ≤ t ∧ t < n := by
 unfold cM_.f; by_cases c1 : n ≤ 1; rotate_left
 ·rw [if_neg c1]; by_cases c2 : i ≥ (c.length : Int); rotate_left
  ·rw [if_neg c2, if_pos hi, if_pos rae, if_neg rae]
   have hv : 0 ≤ rd c i ∧ rd c i < 256 := by
    unfold rd; have h : i.toNat < c.length := by omega
    rw [List.getD_eq_getElem?_getD, List.getElem?_eq_getElem h]; exact hc.2 _ (List.getElem_mem h)
   rw [wr64 rae rae]; exact ⟨_, rfl, Int.tmod_nonneg _ rae, Int.tmod_lt_of_pos _ rae⟩
  rw [if_pos c2]; exact ⟨0, rfl, rae, rae⟩
 rw [if_pos c1]; exact ⟨0, rfl, rae, rae⟩
theorem r8Wide_ok (c : List Int) (hc : u8s c) (n : Int) (hn : 1 ≤ n) : ∃ t, df_.f c 0 n = some t ∧ 0 ≤ t ∧ t < n := by
 obtain ⟨a, ha, a0, a1⟩ := r8At_ok c hc 0 256 rae rae rae; obtain ⟨b, hb, b0, b1⟩ := r8At_ok c hc 1 256 rae rae rae; unfold df_.f; have e1 : wrap64 (0 + 1) = 1 := wr64 rae rae; rw [ha, ob_, e1, hb, ob_, if_neg rae]; have e2 : wrap64 (256 * a) = 256 * a := wr64 rae rae; have e3 : wrap64 (256 * a + b) = 256 * a + b := wr64 rae rae; rw [e2, e3]; exact ⟨_, rfl, Int.tmod_nonneg _ rae, Int.tmod_lt_of_pos _ rae⟩
theorem same_self (m : List Blk) (hl : (m.length : Int) ≤ 1048576) : Ev (fun k => bT_.f k m m) true := by
 have go : ∀ (d i : Nat), i + d = m.length → Ev (fun k => bX_.l0 k m m i) true := by
  intro d
  induction d with
  | zero => intro i hi; refine aO_ ?_; simp only [bX_.l0]; exact Ev_f rae (Ev_n rfl)
  | succ d ih =>
   intro i hi; refine aO_ ?_; simp only [bX_.l0]; rw [wr64s i rae]; exact Ev_t rae (Ev_t rae (Ev_t rae (Ev_f rav (ih (i + 1) rae))))
 simp only [bT_.f]; refine Ev_b (a := true) ?_ (Ev_n rfl); simp only [bX_.f]; exact Ev_t (by trivial) (go m.length 0 rae)
theorem u8s_of {l : List Int} (hl : ¬ (l.length : Int) > 1048576) (hw : ∀ x ∈ l, (Lit.int .u8 x).wf = true) : u8s l := by
 refine ⟨rae, fun x hx => ?_⟩; have h := hw x hx; simp only [Lit.wf, Bool.and_eq_true, decide_eq_true_eq] at h; have e1 : IntKind.u8.min = 0 := by decide
 have e2 : IntKind.u8.max = 255 := by decide
 omega
theorem xor8 (a : Nat) (b : Nat) (ha : a < 256) (hb : b < 256) (hb0 : b ≠ 0) : ∃ c : Nat, c < 256 ∧ c ≠ a ∧ Go.bits .xor .u8 (a : Int) (b : Int) = (c : Int) := by
 have hx : a % 2 ^ IntKind.u8.bits = a := Nat.mod_eq_of_lt (by show a < 2 ^ 8; omega); have hy : b % 2 ^ IntKind.u8.bits = b := Nat.mod_eq_of_lt (by show b < 2 ^ 8; omega); have lt := Nat.xor_lt_two_pow (n := 8) (show a < 2 ^ 8 by omega) (show b < 2 ^ 8 by omega); refine ⟨a ^^^ b, rae, fun e => ?_, ?_⟩
 ·apply hb0
  have := congrArg (a ^^^ ·) e
  simpa [← Nat.xor_assoc, Nat.xor_self] using this
 ·have key : IntKind.u8.wrap ((a ^^^ b : Nat) : Int) = ((a ^^^ b : Nat) : Int) := by
   rw [IntKind.wrap_u8]
   omega
  simpa only [bits, BitVec.ofInt_natCast, BitVec.toNat_xor, BitVec.toNat_ofNat, hx, hy] using key
theorem rd_bytes (L : List UInt8) (i : Nat) (h : i < L.length) : rd (bytesOf (Bs L)) (i : Int) = (L[i].toNat : Int) := by
 rw [rd_bytesOf, bt_in L i h]
theorem set_bytes (L : List UInt8) (i : Nat) (c : Nat) (hc : c < 256) : strOfNums ((bytesOf (Bs L)).set i (c : Int)) = Bs (L.set i (UInt8.ofNat c)) := by
 unfold strOfNums bytesOf; rw [ck_, List.map_set, List.map_map]
 congr 2
 have e : (L.map ((fun n : Int => UInt8.ofNat n.toNat) ∘ fun b : UInt8 => (b.toNat : Int))) = L := by
  conv => rhs; rw [← List.map_id L]
  apply List.map_congr_left
  intro x _
  simp
 rw [e, Int.toNat_natCast]
theorem same_leaf (x : Lf) (hl : x.f6.length ≤ 100) : Ev (fun k => db_.f k x.f0 x.f1 x.f2 x.f3.f0 x.f3.f1 x.f3.f2 x.f4 x.f5 x.f6 x.f0 x.f1 x.f2 x.f3.f0 x.f3.f1 x.f3.f2 x.f4 x.f5 x.f6) true := by
 have r0 : aa_ [x] 0 = x := rfl
 have go : ∀ (d i : Nat), i + d = x.f6.length → Ev (fun k => aU_.l0 k [x] [x] i) true := by
  intro d
  induction d with
  | zero =>
   intro i hi; refine aO_ ?_; simp only [aU_.l0, r0]; exact Ev_t rav (Ev_f rae (Ev_n rfl))
  | succ d ih =>
   intro i hi; refine aO_ ?_; simp only [aU_.l0, r0]; rw [wr64s i rae]; exact Ev_t rav (Ev_t rae (Ev_t rae (Ev_t rav (Ev_t rae (Ev_f rav (ih (i + 1) rae))))))
 have core : Ev (fun k => aU_.f k [x] [x]) true := by
  simp only [aU_.f, r0]; refine Ev_t rav (Ev_t rav (Ev_t (by trivial) (Ev_t (by trivial) (Ev_t (by trivial) (Ev_f rav (Ev_t (by trivial) (Ev_t (by trivial) (aO_ ?_)))))))); simp only [aU_.j0]; exact Ev_f rav (go x.f6.length 0 rae)
 simp only [db_.f]; exact Ev_b core (Ev_n rfl)
theorem leaves_loop (c : List Int) (hc : u8s c) (n : Nat) (hn : n ≤ 4) : ∀ (d : Nat) (m : List Lf) (a s : Int), m.length + d = n → dls m → 0 ≤ a → a + 50 * d < 4611686018427000000 → ∃ m' a' s', Ev (fun k => bJ_.l0 k idsL (n : Int) m (m.length : Int) c a s) (m', a', s') ∧ dls m'
 | 0, m, a, s, h1, h2, h3, h4 => by
  refine ⟨m, a, s, aO_ ?_, h2⟩; simp only [bJ_.l0]; exact Ev_f rae (Ev_n rfl)
 | d + 1, m, a, s, h1, h2, h3, h4 => by
  have hid : idsL.length = 4 := rfl; obtain ⟨x, a1, s1, e1, p1, q1, hx, hd⟩ := leaf_draw c hc a s (idsL[m.length]'rae) h3 rae
  have hm : dls (m ++ [x]) := by
   obtain ⟨g1, g2, g3⟩ := h2; refine ⟨by rw [List.length_append, List.length_singleton]; omega, fun y hy => ?_, fun i hi => ?_⟩
   ·rcases List.mem_append.1 hy with g | g
    ·exact g2 y g
    ·rw [List.mem_singleton.1 g]; exact ⟨by rw [hx]; exact List.getElem_mem _, hd⟩
   ·rw [List.length_append, List.length_singleton] at hi; by_cases c1 : i < m.length; rotate_left
    ·have e : i = m.length := by omega
     subst e; rw [List.getElem_append_right (Nat.le_refl _)]; simp only [Nat.sub_self, List.getElem_cons_zero]; rw [hx, List.getD_eq_getElem?_getD, List.getElem?_eq_getElem rae]; rfl
    rw [List.getElem_append_left c1]; exact g3 i c1
  obtain ⟨m', a', s', e2, e3⟩ := leaves_loop c hc n hn d (m ++ [x]) a1 s1 rbm hm rae rae; rw [show (m ++ [x]).length = m.length + 1 by simp] at e2; refine ⟨m', a', s', aO_ ?_, e3⟩; simp only [bJ_.l0]; rw [rdO_in idsL m.length rae, wr64s m.length rae]; exact Ev_t rae (Ev_t rae (Ev_t rae (Ev_b e1 (Ev_t rae e2))))
theorem leaves_draw (c : List Int) (hc : u8s c) : ∃ m, Ev (fun k => cv_.f k c) m ∧ dls m := by
 obtain ⟨n, a1, s1, e1, p1, q1, n0, n1⟩ := cV_ c hc 0 0 5 rae rae rae; have hn := n1 rae; have hn2 : ((n.toNat : Nat) : Int) = n := by omega
 obtain ⟨m', a', s', h2, h3⟩ := leaves_loop c hc n.toNat rae n.toNat [] a1 s1 rav ⟨rav, rav, by intro i hi; simp at hi⟩ rae rae; rw [hn2] at h2; refine ⟨m', ?_, h3⟩; simp only [cv_.f]; refine Ev_b (a := (c, 0, 0)) (Ev_c rfl) (Ev_b (a := (m', a', s')) ?_ (Ev_n rfl)); simp only [bJ_.f]; exact Ev_b (Ev_c e1) h2
theorem joinL_len1 : ∀ (ls : List (List UInt8)), (∀ l ∈ ls, l.length ≤ 1000) → (joinL ls).length ≤ ls.length * 1001
 | [], _ => by
  simp [joinL]
 | a :: ls, h => by
  have h1 := h a (List.mem_cons_self ..); have h2 := joinL_len1 ls (fun l hl => h l (List.mem_cons_of_mem _ hl)); simp only [joinL, List.length_append, List.length_cons]
  omega
theorem law_Frames : ak_.Pure := by
 intro l0 l1 w0 w1; have hw0 := w0.2; have hw1 := w1.2
 suffices hs : Ev (fun k => ak_.f k l0 l1) true from hs.rounds
 simp only [ak_.f]; by_cases c0 : (l0.length : Int) > 1048576
 ·exact Ev_b (a := true) (Ev_c (by unfold cX_.f; rw [if_pos c0])) (Ev_t rfl (Ev_n rfl))
 by_cases c1 : (l1.length : Int) > 1048576
 ·exact Ev_b (a := true) (Ev_c (by unfold cX_.f; rw [if_neg c0, det c1])) (Ev_t rfl (Ev_n rfl))
 refine Ev_b (a := false) (Ev_c (by unfold cX_.f; rw [if_neg c0, def_ c1])) (Ev_f rah ?_); have u0 := u8s_of c0 hw0; have u1 := u8s_of c1 hw1; obtain ⟨m, em, om, lm, _⟩ := blocks_draw l0 u0; have hone : ∀ y ∈ m, (y.f2.size : Int) ≤ 1048576 ∧ Ev (fun k => aC_.f k [y]) true := om.2.2; have n10 := arc_no10 m hone
 have hll : ∀ l ∈ arcL m, l.length ≤ 1000 := by
  intro l hl; unfold arcL at hl
  rcases List.mem_cons.1 hl with e | e
  ·rw [e, hdr_len _ rae]
   omega
  ·obtain ⟨x, hx, rfl⟩ := List.mem_map.1 e; have h1 := dw_ (hone x hx).2 (hone x hx).1; have h2 := fiveL_len (restL x); unfold lineL; simp only [List.length_append, List.length_cons]
   omega
 have hal : (arcL m).length = m.length + 1 := by simp [arcL]
 have hsz := joinL_len1 _ hll
 have hpos : 1 ≤ (joinL (arcL m)).length := by
  simp [arcL, joinL]
  omega
 have sv := isave_val m om; have lo := iload_val m om
 have hsp : lns (Bs (joinL (arcL m))) = (arcL m).map Bs ++ [(⟨#[]⟩ : ByteArray)] := by
  unfold lns; rw [ck_, spl_join _ n10, List.map_append]; rfl
 have hline : ∀ i (hi : i < m.length), ((arcL m).map Bs ++ [(⟨#[]⟩ : ByteArray)])[i + 1]'rbk = Bs (lineL m[i]) := by
  intro i hi; rw [List.getElem_append_left rbk, List.getElem_map]
  simp [arcL]
 have hpl : ((arcL m).map Bs ++ [(⟨#[]⟩ : ByteArray)]).length = m.length + 2 := by
  rw [List.length_append, List.length_map, hal]; rfl
 have hsb : ((Bs (joinL (arcL m))).size : Int) ≤ 1048576 := by
  rw [bP_]
  omega
 have da : Ev (fun k => bb_.f k (Bs (joinL (arcL m)))) [] := by
  have g := damaged_x (Bs (joinL (arcL m))) hsb _ hsp (m.length + 1) rae rae (by rw [List.getElem_append_right (by simp [hal])]; simp [hal]) (fun _ => false) (by
   intro i hi h1; obtain ⟨i', rfl⟩ : ∃ i', i = i' + 1 := ⟨i - 1, rae⟩; have him : i' < m.length := by omega
   refine ⟨(m[i'].f0, m[i'].f1, m[i'].f2, 0), ?_, rav⟩; rw [hline i' him]; exact iparse_ok (hone _ (List.getElem_mem him)).2 (hone _ (List.getElem_mem him)).1)
  have e : ((List.range' 1 (m.length + 1 - 1)).filter (fun _ => false)).map (fun i => ((i + 1 : Nat) : Int)) = [] := by
   rw [List.filter_eq_nil_iff.2 rav]; rfl
  rw [e] at g; exact g
 have sa : Ev (fun k => aT_.f k (Bs (joinL (arcL m)))) m := isalv (Bs (joinL (arcL m))) hsb _ hsp (m.length + 1) rae rae m rfl om (by
  intro i hi; rw [hline i hi]; exact iparse_ok (hone _ (List.getElem_mem hi)).2 (hone _ (List.getElem_mem hi)).1)
 have ss := same_self m rae; refine Ev_b em (Ev_b sv (Ev_b lo (Ev_b da (Ev_b sa (Ev_t rfl (Ev_t rfl (Ev_t rfl (Ev_b ss (Ev_t rfl (Ev_t rfl (Ev_b ss ?_))))))))))); refine aO_ ?_; simp only [ak_.j0]
 have svs := save_val m om.1 om.ev hone; refine Ev_f rah (Ev_b svs (Ev_t ra3 (Ev_s ?_))); have bad := iload_bad m om lm; generalize hO : joinL (arcL m) = O at *; have hbl : (bytesOf (Bs O)).length = O.length := by rw [bytesOf_length, bP_]
 rw [hbl]; obtain ⟨t, et, t0, t1⟩ := r8Wide_ok l1 u1 (O.length : Int) rae; obtain ⟨p, rfl⟩ := Int.eq_ofNat_of_zero_le t0; have hp : p < O.length := by omega
 obtain ⟨v, ev, v0, v1⟩ := r8At_ok l1 u1 2 255 rae rae rae; refine Ev_b (Ev_c et) (Ev_t rae (Ev_t rae (Ev_b (Ev_c ev) ?_))); rw [rd_bytes O p hp, Int.toNat_natCast]; obtain ⟨x, hx⟩ : ∃ x : Nat, 1 + v = (x : Int) := ⟨(1 + v).toNat, rae⟩
 have ex : (wrap64 (1 + v)) % 256 = (x : Int) := by
  rw [wr64 rae rae, hx]
  omega
 obtain ⟨c, RS, cne, ec⟩ := xor8 O[p].toNat x O[p].toNat_lt rae rae; rw [ex, ec, set_bytes O p c RS]; have hcn : (UInt8.ofNat c).toNat = c := UInt8.toNat_ofNat_of_lt' RS
 have hcO : UInt8.ofNat c ≠ O[p] := by
  intro e
  apply cne
  rw [← hcn, e]
 obtain ⟨r, r0, r1⟩ := bad p hp (UInt8.ofNat c) hcO
 obtain ⟨L, eL, dL⟩ := leaves_draw l1 u1; have ib := iblocks dL; have il := ileaves dL; refine Ev_b r1 (Ev_b eL (Ev_b ib (Ev_b il (Ev_f r0 (Ev_t rfl (Ev_t rfl (aO_ ?_))))))); simp only [ak_.j1]; refine Ev_f rav ?_; have h4 := dL.1
 have go : ∀ (d i : Nat), i + d = L.length → Ev (fun k => ak_.l0 k L L i) true := by
  intro d
  induction d with
  | zero =>
   intro i hi; refine aO_ ?_; simp only [ak_.l0]; exact Ev_f rae (Ev_n rfl)
  | succ d ih =>
   intro i hi; have hin : i < L.length := by omega
   have sl := same_leaf L[i] (by have := (dL.2.1 _ (List.getElem_mem hin)).2.2.2.2.2.2.2.2.1; omega); refine aO_ ?_; simp only [ak_.l0]; rw [rdi_Leaf L i hin, wr64s i rae]; exact Ev_t rae (Ev_t rae (Ev_t rae (Ev_b sl (Ev_t rfl (ih (i + 1) rae)))))
 exact go L.length 0 rae
end Go.Proofs.YtjebkmfljcanlaaGreatDoor.Q
namespace Go.Proofs.YtjebkmfljcanlaaGreatDoor.Pure
open Go.Proofs.YtjebkmfljcanlaaGreatDoor.Q
theorem FnFrames : ak_.Pure := law_Frames
end Go.Proofs.YtjebkmfljcanlaaGreatDoor.Pure
namespace Go.Proofs.YtjebkmfljcanlaaGreatDoor.OPN
open Go
theorem wrap_and_shaped {H : Type} {enc : TypeId × Value → H} {a : Assume} {C : Checked} {os : Os} {f : FuncId} {fn : Func} {s : ChangeSpec} {conds : List PathCond} {apart fresh handsOn again : Bool} {X : World → Array Value → Prop}
  (hX : ∀ (w w' : World) (args : Array Value), w.heap = w'.heap → X w args → X w' args)
  (own : ownKnob C.prog.godebug = none) (started : os.Started) (noInit : C.prog.inits.idxOf? f = none) (hfn : C.prog.funcs[f]? = some fn)
  (witness : ∃ (w : World) (tape : Tape) (i : Input), w.os = os ∧ (w.forCall tape i).Shaped C.prog ∧ i.vars = [] ∧ Input.okWide C.prog (w.forCall tape i) .any w.heap.size f i ∧
   ((s.pre enc C.prog fn conds apart (w.forCall tape i).memory i.args ∧ X (w.forCall tape i).memory i.args) ∧ sizedMet enc C.prog fn (OpenSpec.ofChange s) apart (w.forCall tape i).memory i.args) ∧ a.holds C.prog (lone (Frame.enter C.prog f i.args .normal) [] (w.forCall tape i)))
  (contract : ∀ (W : World) (base : Nat) (args : Array Value) (ds gs : List (DataW H)) (before : List MemPlace),
   (∀ (j : Nat) t v, fn.params[j]? = some t → args[j]? = some v → Value.okWide C.prog W .any base t v) →
   DataW.Whole enc C.prog fn.params.toList s.vars apart W args.toList ds gs before →
   conds.all (PathCond.test C.prog ⟨fn.params.toList, ds, s.plain.varTypes C.prog, gs⟩) = true →
   (DataW.weightsEach C.prog (fn.params.toList ++ s.plain.varTypes C.prog) (ds ++ gs)).all (· ≤ reachBytes) = true → X W args → W.ShapedOpen C.prog →
   a.holds C.prog (lone (Frame.enter C.prog f args .normal) [] W) →
   Calls C.prog f args W fun e W' => ∃ v, e = .returned v ∧ s.post enc C.prog fn apart fresh handsOn again W args v W') :
  ReturnsInHanded a C os f .any (fun w args => (s.pre enc C.prog fn conds apart w args ∧ X w args) ∧ sizedMet enc C.prog fn (OpenSpec.ofChange s) apart w args) (s.post enc C.prog fn apart fresh handsOn again) := by
 refine returnsInHanded_of_calls own started noInit witness ?_
 intro w tape i _ hsh _ hok hpre hholds
 obtain ⟨_, _, _, fn', hfn', _, _, _, _, hval⟩ := hok
 have e : fn' = fn := Option.some.inj (hfn'.symm.trans hfn)
 subst e
 obtain ⟨⟨⟨ds, gs, before, hw, hc⟩, hx⟩, hz⟩ := hpre
 have hw' := DataW.Whole.of_heap (w' := w.forCall tape i) (by rfl) hw
 refine (contract (w.forCall tape i) w.heap.size i.args ds gs before hval hw' hc (hz.weights hw) (hX _ _ _ (by rfl) hx) hsh hholds).mono fun e W' ⟨v, he, hp⟩ => ?_
 subst he
 exact ChangeSpec.post_blind hp
end Go.Proofs.YtjebkmfljcanlaaGreatDoor.OPN
namespace Go.Proofs.YtjebkmfljcanlaaGreatDoor.fnFrames
open Go.ChangeShapes Go.WideShapes Go.ChangeAt Go.RowKit Go.Proofs.YtjebkmfljcanlaaGreatDoor.OPN Go.Proofs.YtjebkmfljcanlaaGreatDoor.Q Go.Proofs.YtjebkmfljcanlaaGreatDoorW.PrintWords
open Go.ChangeMaps (open_string shut_string)
theorem own : ownKnob Tryz.prog.godebug = none := by kernel_rfl
theorem laidOut : laidOutB Tryz.prog = true := by kernel_rfl
theorem tab_of {W : World} (hL : laidMetH Tryz.prog Rows.fnFramesRow.laid W) (hsh : W.ShapedOpen Tryz.prog) : Tab_ W := by
 refine ⟨?_, ?_⟩
 ·have hl := hL
  rw [MakeChecks.laidMetH_plain _ _ _ (by kernel_rfl)] at hl
  have h1 := (laidMet.tail (laidMet.tail hl))
  have e_ : (Rows.laid_internal_strconv_uint64pow10 : DataW Unit) = Lib.tabData .u64 Lib.pow10Tab := by rfl
  refine Lib.tabIs_of_head (g := 1) (t := 160) (e := 83) (n := 20) (rest := [("unicode/utf8.acceptRanges", Rows.laid_unicode_utf8_acceptRanges), ("unicode/utf8.first", Rows.laid_unicode_utf8_first)]) (by kernel_rfl) (by kernel_rfl) Tryz.underlying160 Tryz.underlying83 (by kernel_rfl) (by kernel_rfl) ?_
  rw [← e_]
  exact h1
 ·exact Tryz.laysM219.s1_3 W hsh
theorem lifted (os : Os) (started : os.Started) (H : Type) (enc : TypeId × Value → H) :
  ReturnsInHanded {} Tryz.checked os 3 .any (fun w args => (Rows.fnFramesSpec.pre enc Tryz.prog Tryz.f3 Rows.fnFramesRow.domain false w args ∧ laidMetH Tryz.prog Rows.fnFramesRow.laid w) ∧ sizedMet enc Tryz.prog Tryz.f3 (OpenSpec.ofChange Rows.fnFramesSpec) false w args) (Rows.fnFramesSpec.post enc Tryz.prog Tryz.f3 false true false false) := by
 refine wrap_and_shaped (C := Tryz.checked) (X := fun w _ => laidMetH Tryz.prog Rows.fnFramesRow.laid w) (fun _ _ _ hh h => h.of_heap hh) own started (by kernel_rfl) Tryz.func3
  (ChangeSpec.witness_shaped (enc := enc) (C := Tryz.checked) (os := os) (X := fun w _ => laidMetH Tryz.prog Rows.fnFramesRow.laid w) false (World.laidAll Tryz.prog os Rows.fnFramesRow.laid) #[.slice none 0 0, .slice none 0 0] 8 (World.laidAll_os _ _ _) (World.shaped_of_ZipB (by kernel_rfl) (by kernel_rfl)) (by kernel_rfl) (by kernel_rfl) (by kernel_rfl) (by rw [MakeChecks.laidMetH_plain _ _ _ (by kernel_rfl)]; exact laidMet_laidAll _ (by kernel_rfl) (by kernel_rfl))) ?_
 intro W base args ds gs before hval0 hW hcnd hsz0 hL hsh _
 have hTab := tab_of hL hsh
 clear hL hsh
 have hval : ∀ (j : Nat) t v, Tryz.f3.params[j]? = some t → args[j]? = some v → Value.okWide Tryz.prog W .any base t v := hval0
 have hW' := hW
 obtain ⟨p, q, hA0, hV, rfl, hfz, hnd⟩ := hW
 have hA : DataW.TrodAll enc Tryz.prog W 0 (fun _ => true) true Tryz.f3.params.toList args.toList ds p := hA0
 rw [Tryz.params3] at hA hval
 obtain ⟨v0, vs0, d0, ds0, p0, q0, hargs, rfl, rfl, h0, r0⟩ := trodAll_cons hA
 obtain ⟨v1, vs1, d1, ds1, p1, q1, rfl, rfl, rfl, h1, r1⟩ := trodAll_cons r0
 obtain ⟨rfl, rfl, rfl⟩ := trodAll_nil r1
 obtain rfl : args = #[v0, v1] := by cases args; simp_all
 obtain ⟨rfl, rfl⟩ := trodVars_none hV
 have lt0 : ∀ x ∈ p0, x.block < W.heap.size := by obtain ⟨m, hm⟩ := h0; exact DataW.trod_lt m _ _ _ hm
 have k0 := h0
 obtain ⟨z0, y0, u0, rfl⟩ := okWide_slice Tryz.underlying22 (hval 0 22 v0 rfl rfl)
 obtain ⟨fu0, hf0⟩ := h0
 obtain ⟨x0, ⟨A0, c0, hcs0, hc0, hr0⟩, w0⟩ := ((opn_slice Tryz.underlying22 (by kernel_rfl) (opn_int Tryz.underlying5 (by kernel_rfl))) : Opn _ _ (Kd.slice 5 (Kd.int .u8)) _).get rfl hf0
 obtain ⟨rfl, rfl, rfl⟩ : A0 = z0 ∧ x0.length = y0 ∧ c0 = u0 := (fun (h_ : z0 = A0 ∧ y0 = x0.length ∧ u0 = c0) => ⟨h_.1.symm, h_.2.1.symm, h_.2.2.symm⟩) (by simpa [Value.cells] using hcs0)
 have lt1 : ∀ x ∈ p1, x.block < W.heap.size := by obtain ⟨m, hm⟩ := h1; exact DataW.trod_lt m _ _ _ hm
 have k1 := h1
 obtain ⟨z1, y1, u1, rfl⟩ := okWide_slice Tryz.underlying22 (hval 1 22 v1 rfl rfl)
 obtain ⟨fu1, hf1⟩ := h1
 obtain ⟨x1, ⟨A1, c1, hcs1, hc1, hr1⟩, w1⟩ := ((opn_slice Tryz.underlying22 (by kernel_rfl) (opn_int Tryz.underlying5 (by kernel_rfl))) : Opn _ _ (Kd.slice 5 (Kd.int .u8)) _).get rfl hf1
 obtain ⟨rfl, rfl, rfl⟩ : A1 = z1 ∧ x1.length = y1 ∧ c1 = u1 := (fun (h_ : z1 = A1 ∧ y1 = x1.length ∧ u1 = c1) => ⟨h_.1.symm, h_.2.1.symm, h_.2.2.symm⟩) (by simpa [Value.cells] using hcs1)
 clear hA0 hval0 hsz0
 obtain ⟨k, hP⟩ := Pure.FnFrames x0 x1 w0 w1
 refine (ak_.calls k A0 c0 x0 A1 c1 x1 true W hr0 hc0 hr1 hc1 hTab hP).mono fun e W' hh => ?_
 obtain ⟨rfl, bel0⟩ := hh
 have bel : Below W.heap.size W W' := bel0
 exact ⟨_, rfl, _, _, _, [], _, [], hW', trodAll_mk1 (shut_bool Tryz.underlying4 _), (trodAll_cons_mk (Below.trod laidOut (by kernel_rfl) (of_decide_eq_true (by kernel_rfl)) k0 bel lt0) (trodAll_cons_mk (Below.trod laidOut (by kernel_rfl) (of_decide_eq_true (by kernel_rfl)) k1 bel lt1) trodAll_mk0)), rfl, bel.frame _, fun h => by cases h⟩
theorem over : Rows.fnFramesRow.holds Tryz.pinned (OpenSpec.ofChange Rows.fnFramesSpec) :=
 OpenClaim.holds_of_wide 3 Tryz.f3 rfl rfl rfl rfl rfl rfl rfl ⟨rfl, rfl, rfl, rfl, rfl⟩ rfl rfl rfl rfl rfl (by kernel_rfl) Tryz.func3 (by kernel_rfl)
  (of_decide_eq_true (by kernel_rfl)) (by unfold Func.isWrapper; first | (rw [if_pos (by decide +kernel)]; kernel_rfl) | (rw [if_neg (by decide +kernel)]; exact ⟨rfl, rfl⟩))
  (fun os started H enc _ => lifted os started H enc)
theorem proved : Rows.FnFramesSaid := over
#print axioms proved
end Go.Proofs.YtjebkmfljcanlaaGreatDoor.fnFrames
namespace Go.Proofs.YtjebkmfljcanlaaGreatDoor
open Go
theorem fnFrames_holds : Rows.FnFramesCardSaid :=
 Claim7.holds_tied_plain_at .later [] [.data, .data, .data, .data, .pinned] true (true, "21d08b2554729be023e713bba27325c15a5ae274a13c9b44393545ce3f717fec") false fnFrames.proved (fun _ h => by cases h) (by kernel_rfl) (fun _ h => by cases h) fnFrames_row_tie rfl ⟨rfl, rfl⟩ (by kernel_rfl) rfl
  (fun f fn hf hfn => by
   obtain rfl : f = 3 := Option.some.inj ((show Tryz.prog.funcNamed "loop.example/g00956/laws.FnFrames" = some 3 by kernel_rfl).symm.trans hf) |>.symm
   obtain rfl : fn = Tryz.f3 := (Option.some.inj (Tryz.func3.symm.trans hfn)).symm
   exact ⟨by kernel_rfl, fun j t ht => by
    rw [Tryz.params3] at ht
    have hm : t ∈ [22, 22] := by simpa using Array.mem_of_getElem? ht
    have hall : ([22, 22].all fun u => !Tryz.prog.wantsStandIn u) = true := by kernel_rfl
    exact (show Tryz.prog.wantsStandIn t = false by simpa using List.all_eq_true.1 hall t hm)⟩)
  (by kernel_rfl)
end Go.Proofs.YtjebkmfljcanlaaGreatDoor
