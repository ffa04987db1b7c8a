/- For all arguments that the law's sizes let in, the program's LoadBlocks gives what the reference gives. This text holds the last walks, the plain law and the row. -/
import Derived.Lib.ItoaLen
import Derived.Lib.SplitLaws
import Derived.Lib.IndexBytes
import Derived.KernelRfl
import Derived.HandedShaped
import Derived.Test.YtjebkmfljcanlaaDoorRows
import Derived.Test.YtjebkmfljcanlaaDoorCards
import Derived.Test.YtjebkmfljcanlaaDoorTie
import Derived.Stop.LaidErr
import Derived.LaidMore
import Derived.Lay
import Derived.SevenTiedAt
import Derived.Stop.Joined
import Derived.Lib.LaidTab
import Derived.WalkKit
import Derived.ProofKit
import Derived.OpenShut
import Derived.ShutString
import Derived.ChangeOld
import Derived.Below
import Derived.SizedLaws
import Derived.Carry
import Derived.Test.YtjebkmfljcanlaaDoorKFnExactLoadBlocksa
import Derived.Test.YtjebkmfljcanlaaDoorKFnExactLoadBlocksb
import Derived.Test.YtjebkmfljcanlaaDoorKFnExactLoadBlocksc
set_option linter.unusedVariables false
set_option linter.unusedSimpArgs false
namespace Go.Proofs.YtjebkmfljcanlaaDoor.Q
open Go.RowKit Go.Proofs.YtjebkmfljcanlaaDoorW.PrintWords Go.Proofs.YtjebkmfljcanlaaDoorW.PrintLast Go.Proofs.YtjebkmfljcanlaaDoorW.PrintMore
def noNl : List UInt8 → Bool
 | [] => true
 | x :: l => if x = 10 then false else noNl l
theorem noNl_index : ∀ l : List UInt8, (!decide (0 ≤ Go.Lib.indexByte l 10)) = noNl l
 | [] => by decide
 | x :: l => by
  have ih := noNl_index l
  have hg := Go.Lib.indexByte_ge l 10
  unfold noNl Go.Lib.indexByte
  by_cases h : x = 10
  rotate_left
  ·have hb : (x == 10) = false := by simpa using h
   rw [if_neg (by rw [hb]; decide), if_neg h, ← ih]
   by_cases h2 : Go.Lib.indexByte l 10 = -1
   rotate_left
   ·have hb2 : (Go.Lib.indexByte l 10 == -1) = false := by simpa using h2
    rw [if_neg (by rw [hb2]; decide)]
    simp [show 0 ≤ Go.Lib.indexByte l 10 by omega, show 0 ≤ Go.Lib.indexByte l 10 + 1 by omega]
   simp [h2]
  simp [h]
theorem bt_get (s : ByteArray) (i : Nat) (h : i < s.data.toList.length) : (bt s (i : Int) = 10) = (s.data.toList[i] = 10) := by
 have hs : i < s.size := by rw [Array.length_toList] at h; exact h
 unfold bt
 rw [dif_pos (show (i : Int).toNat < s.size from hs)]
 have e : s[(i : Int).toNat]'hs = s.data.toList[i] := by simp; rfl
 rw [e]
 apply propext
 constructor
 ·intro he; apply UInt8.toNat_inj.1; have : (s.data.toList[i].toNat : Int) = ((10 : UInt8).toNat : Int) := he; exact Int.ofNat_inj.1 this
 ·intro he; rw [he]; rfl
theorem oneB_loop (x : S43) (hx : (x.f2.size : Int) ≤ 1048576) (na nb : Bool) (ha : ∀ k, 12 < k → ar_.f k x.f0 = some na) (hb : ∀ k, 12 < k → ar_.f k x.f1 = some nb) : ∀ (d i : Nat), i + d = x.f2.size → ∀ k, d + 20 < k → aP_.l0 k [x] i = some (noNl (x.f2.data.toList.drop i) && (na && (nb && decide ((x.f2.size : Int) ≤ 400)))) := by
 have hrd : aj_ [x] 0 = x := rfl
 have hsz : x.f2.data.toList.length = x.f2.size := by rw [Array.length_toList]; rfl
 have g0 : (0 < (([x] : List S43).length : Int)) = True := eq_true (by simp)
 intro d
 induction d with
 | zero =>
  intro i h k hk
  obtain ⟨k, rfl⟩ : ∃ m, k = m + 1 := ⟨k - 1, by omega⟩
  have g1 : ((i : Int) < (x.f2.size : Int)) = False := eq_false (by omega)
  simp only [aP_.l0, hrd, g0, g1, if_true, if_false, name_same, ha k (by omega), hb k (by omega), Option.bind_some]
  rw [List.drop_of_length_le (by omega)]
  cases na <;> cases nb <;> simp [noNl]
 | succ d ih =>
  intro i h k hk
  obtain ⟨k, rfl⟩ : ∃ m, k = m + 1 := ⟨k - 1, by omega⟩
  have g1 : ((i : Int) < (x.f2.size : Int)) = True := eq_true (by omega)
  have g2 : (0 ≤ (i : Int)) = True := eq_true (by omega)
  have g4 : wrap64 ((i : Int) + 1) = ((i + 1 : Nat) : Int) := by rw [w64 (by omega) (by omega)]; omega
  have hi : i < x.f2.data.toList.length := by omega
  simp only [aP_.l0, hrd, g0, g1, g2, g4, if_true]
  rw [List.drop_eq_getElem_cons hi]
  unfold noNl
  by_cases hc : x.f2.data.toList[i] = 10
  rotate_left
  ·rw [if_neg (by rw [bt_get x.f2 i hi]; exact hc), if_neg hc, ih (i + 1) (by omega) k (by omega)]
  rw [if_pos ((bt_get x.f2 i hi).symm ▸ hc), if_pos hc]; rfl
theorem validB_ev (x : S43) (hx : (x.f2.size : Int) ≤ 1048576) : ∃ b, ∀ k, 2000000 < k → aP_.f k [x] = some b ∧ aV_.f k x.f0 x.f1 x.f2 = some b := by
 obtain ⟨na, ha⟩ := name_ev x.f0
 obtain ⟨nb, hb⟩ := name_ev x.f1
 refine ⟨noNl x.f2.data.toList && (na && (nb && decide ((x.f2.size : Int) ≤ 400))), fun k hk => ⟨?_, ?_⟩⟩
 ·have := oneB_loop x hx na nb ha hb x.f2.size 0 (by omega) k (by omega)
  unfold aP_.f
  simpa using this
 ·unfold aV_.f strings_Contains.f
  rw [ha k (by omega), hb k (by omega)]
  have hn := noNl_index x.f2.data.toList
  cases na
  ·simp
  ·cases nb
   ·simp
   ·by_cases h4 : (x.f2.size : Int) ≤ 400
    ·simp only [Option.bind_some, if_true, h4]
     rw [hn]; simp
    ·simp [h4]
theorem cmp_lt : ∀ l m : List UInt8, (Go.Lib.compareBytes l m < 0 ↔ Op.bytesLess l m = true) ∧ (Go.Lib.compareBytes l m = 0 ↔ l = m)
 | [], [] => by simp [Go.Lib.compareBytes, Op.bytesLess]
 | [], _ :: _ => by simp [Go.Lib.compareBytes, Op.bytesLess]
 | _ :: _, [] => by simp [Go.Lib.compareBytes, Op.bytesLess]
 | a :: x, b :: y => by
  obtain ⟨h1, h2⟩ := cmp_lt x y
  unfold Go.Lib.compareBytes Op.bytesLess
  by_cases hab : a < b
  rotate_left
  ·by_cases hba : b < a
   rotate_left
   ·have he : a = b := UInt8.le_antisymm (UInt8.not_lt.1 hba) (UInt8.not_lt.1 hab)
    subst he
    simp only [hab, if_false, h1, h2]
    simp
   have hne : a ≠ b := fun e => by subst e; exact absurd hba (UInt8.lt_irrefl _)
   simp [hab, hba, hne]
  have hne : a ≠ b := fun e => by subst e; exact absurd hab (UInt8.lt_irrefl _)
  simp [hab, hne]
theorem before_ev (x y : S43) : ∃ c, bm_.f [x] [y] = some (!decide (c ≥ (0 : Int))) ∧ bb_.f x.f0 x.f1 x.f2 y.f0 y.f1 y.f2 = some c := by
 have h1 : aj_ [x] 0 = x := rfl
 have h2 : aj_ [y] 0 = y := rfl
 unfold bm_.f bb_.f strings_Compare.f
 simp only [h1, h2, Option.bind_some, Go.ByteArray.toList_eq]
 rw [if_pos (by simp), if_pos (by simp)]
 obtain ⟨a1, a2⟩ := cmp_lt x.f0.data.toList y.f0.data.toList
 obtain ⟨b1, _⟩ := cmp_lt x.f1.data.toList y.f1.data.toList
 by_cases hz : Go.Lib.compareBytes x.f0.data.toList y.f0.data.toList = 0
 rotate_left
 ·refine ⟨Go.Lib.compareBytes x.f0.data.toList y.f0.data.toList, ?_, by rw [if_neg hz]⟩
  by_cases hl : Op.bytesLess x.f0.data.toList y.f0.data.toList = true
  rotate_left
  ·have : ¬ Go.Lib.compareBytes x.f0.data.toList y.f0.data.toList < 0 := fun e => hl (a1.1 e)
   rw [if_neg hl, if_neg (fun e => hz (a2.2 e))]
   simp [show Go.Lib.compareBytes x.f0.data.toList y.f0.data.toList ≥ 0 by omega]
  have := a1.2 hl
  rw [if_pos hl]
  simp [show ¬ Go.Lib.compareBytes x.f0.data.toList y.f0.data.toList ≥ 0 by omega]
 refine ⟨Go.Lib.compareBytes x.f1.data.toList y.f1.data.toList, ?_, by rw [if_pos hz]⟩
 have hn : ¬ Op.bytesLess x.f0.data.toList y.f0.data.toList = true := fun e => by have := a1.2 e; omega
 rw [if_neg hn, if_pos (a2.1 hz)]
 congr 1
 cases hb : Op.bytesLess x.f1.data.toList y.f1.data.toList with
 | true => have := b1.2 hb; simp [show ¬ Go.Lib.compareBytes x.f1.data.toList y.f1.data.toList ≥ 0 by omega]
 | false =>
  have : ¬ Go.Lib.compareBytes x.f1.data.toList y.f1.data.toList < 0 := fun e => by rw [b1.1 e] at hb; cases hb
  simp [show Go.Lib.compareBytes x.f1.data.toList y.f1.data.toList ≥ 0 by omega]
abbrev Blk := S43
def cB : List UInt8 × List UInt8 → List UInt8 × List UInt8 → Int := lx Go.Lib.compareBytes
def ckB (x : Blk) : List UInt8 × List UInt8 := (x.f0.data.toList, x.f1.data.toList)
theorem cmp_ev (a0 a1 a2 b0 b1 b2 : ByteArray) : bb_.f a0 a1 a2 b0 b1 b2 = some (cB (a0.data.toList, a1.data.toList) (b0.data.toList, b1.data.toList)) := by
 unfold bb_.f strings_Compare.f cB lx
 simp only [Option.bind_some]
 split <;> rfl
theorem bfr_ev (x y : Blk) : bm_.f [x] [y] = some (decide (cB (ckB x) (ckB y) < 0)) := by
 obtain ⟨c, h1, h2⟩ := before_ev x y
 rw [cmp_ev] at h2
 have h3 : cB (ckB x) (ckB y) = c := Option.some.inj h2
 rw [h1, ← h3]
 congr 1
 by_cases h : cB (ckB x) (ckB y) < 0
 rotate_left
 ·simp [h]; omega
 simp [h]
theorem bits16 (op : BinOp) (hop : op = .xor ∨ op = .and) (a b : Int) (ha : 0 ≤ a) (ha2 : a < 131072) (hb : 0 ≤ b) (hb2 : b < 65536) (h : op = .xor → a < 65536) : 0 ≤ Go.bits op .i64 a b ∧ Go.bits op .i64 a b < 65536 := by
 obtain ⟨x, rfl⟩ := Int.eq_ofNat_of_zero_le ha
 obtain ⟨y, rfl⟩ := Int.eq_ofNat_of_zero_le hb
 have hx : x % 2 ^ IntKind.i64.bits = x := Nat.mod_eq_of_lt (by show x < 2 ^ 64; omega)
 have hy : y % 2 ^ IntKind.i64.bits = y := Nat.mod_eq_of_lt (by show y < 2 ^ 64; omega)
 have key : ∀ n : Nat, n < 65536 → 0 ≤ IntKind.i64.wrap (n : Int) ∧ IntKind.i64.wrap (n : Int) < 65536 := fun n hn => by
  rw [IntKind.wrap_i64]
  omega
 rcases hop with rfl | rfl
 ·have hx2 : x < 2 ^ 16 := by have := h rfl; omega
  have := Nat.xor_lt_two_pow (n := 16) hx2 (show y < 2 ^ 16 by omega)
  have := key _ this
  simpa only [bits, BitVec.ofInt_natCast, BitVec.toNat_xor, BitVec.toNat_ofNat, hx, hy] using this
 ·have := Nat.and_lt_two_pow x (show y < 2 ^ 16 by omega)
  have := key _ this
  simpa only [bits, BitVec.ofInt_natCast, BitVec.toNat_and, BitVec.toNat_ofNat, hx, hy] using this
theorem bt_256 (x : ByteArray) (i : Int) : 0 ≤ bt x i ∧ bt x i < 256 := by
 unfold bt
 split
 ·rename_i h
  have := UInt8.toNat_lt (x[i.toNat]'h)
  omega
 ·omega
theorem crc_ev (x : ByteArray) (hx : (x.size : Int) ≤ 1048576) : ∃ r : Int, 0 ≤ r ∧ r ≤ 65535 ∧ Ev (fun k => aG_.f k x 65535) r ∧ Ev (fun k => aO_.f k x 65535) r := by
 have inner : ∀ (i : Nat), (i : Int) + 1 ≤ 1048577 → (∀ c : Int, 0 ≤ c → c ≤ 65535 → ∃ r : Int, 0 ≤ r ∧ r ≤ 65535 ∧ Ev (fun k => aG_.l0 k x c ((i + 1 : Nat) : Int)) r ∧ Ev (fun k => aO_.l0 k x c ((i + 1 : Nat) : Int)) r) → ∀ (d j : Nat), j + d = 8 → ∀ c : Int, 0 ≤ c → c ≤ 65535 → ∃ r : Int, 0 ≤ r ∧ r ≤ 65535 ∧ Ev (fun k => aG_.l1 k x c i j) r ∧ Ev (fun k => aO_.l1 k x c i j) r := by
  intro i hi nx d
  induction d with
  | zero =>
   intro j hj c c0 c1
   obtain ⟨r, r0, r1, r2, r3⟩ := nx c c0 c1
   refine ⟨r, r0, r1, aJ_ ?_, aJ_ ?_⟩
   ·simp only [aG_.l1]; rw [wr64s i (by omega)]; exact Ev_f (by omega) r2
   ·simp only [aO_.l1]; rw [wr64s i (by omega)]; exact Ev_f (by omega) r3
  | succ d ih =>
   intro j hj c c0 c1
   have e2 : wrap64 (c * 2) = c * 2 := wr64 (by omega) (by omega)
   by_cases h : c * 2 > 65535
   rotate_left
   ·obtain ⟨r, r0, r1, r2, r3⟩ := ih (j + 1) (by omega) (c * 2) (by omega) (by omega)
    refine ⟨r, r0, r1, aJ_ ?_, aJ_ ?_⟩
    ·simp only [aG_.l1]; rw [e2, wr64s j (by omega)]; exact Ev_t (by omega) (Ev_f h r2)
    ·simp only [aO_.l1]; rw [e2, wr64s j (by omega)]; exact Ev_t (by omega) (Ev_f h r3)
   have b1 := bits16 .and (.inr rfl) (c * 2) 65535 (by omega) (by omega) (by omega) (by omega) (fun q => by cases q)
   have b2 := bits16 .xor (.inl rfl) (Go.bits .and .i64 (c * 2) 65535) 4129 b1.1 (by omega) (by omega) (by omega) (fun _ => b1.2)
   obtain ⟨r, r0, r1, r2, r3⟩ := ih (j + 1) (by omega) _ b2.1 (by omega)
   refine ⟨r, r0, r1, aJ_ ?_, aJ_ ?_⟩
   ·simp only [aG_.l1]; rw [e2, wr64s j (by omega)]; exact Ev_t (by omega) (Ev_t h r2)
   ·simp only [aO_.l1]; rw [e2, wr64s j (by omega)]; exact Ev_t (by omega) (Ev_t h r3)
 have outer : ∀ (d i : Nat), i + d = x.size → ∀ c : Int, 0 ≤ c → c ≤ 65535 → ∃ r : Int, 0 ≤ r ∧ r ≤ 65535 ∧ Ev (fun k => aG_.l0 k x c i) r ∧ Ev (fun k => aO_.l0 k x c i) r := by
  intro d
  induction d with
  | zero =>
   intro i hi c c0 c1
   refine ⟨c, c0, c1, aJ_ ?_, aJ_ ?_⟩
   ·simp only [aG_.l0]; exact Ev_f (by omega) (Ev_n rfl)
   ·simp only [aO_.l0]; exact Ev_f (by omega) (Ev_n rfl)
  | succ d ih =>
   intro i hi c c0 c1
   have hb := bt_256 x i
   have e1 : wrap64 (bt x i) = bt x i := wr64 (by omega) (by omega)
   have e2 : wrap64 (bt x i * 256) = bt x i * 256 := wr64 (by omega) (by omega)
   have b2 := bits16 .xor (.inl rfl) c (bt x i * 256) c0 (by omega) (by omega) (by omega) (fun _ => by omega)
   obtain ⟨r, r0, r1, r2, r3⟩ := inner i (by omega) (fun c q0 q1 => ih (i + 1) (by omega) c q0 q1) 8 0 (by omega) _ b2.1 (by omega)
   refine ⟨r, r0, r1, aJ_ ?_, aJ_ ?_⟩
   ·simp only [aG_.l0]; rw [e1, e2]; exact Ev_t (by omega) (Ev_t (by omega) r2)
   ·simp only [aO_.l0]; rw [e1, e2]; exact Ev_t (by omega) (Ev_t (by omega) r3)
 obtain ⟨r, r0, r1, r2, r3⟩ := outer x.size 0 (by omega) 65535 (by omega) (by omega)
 refine ⟨r, r0, r1, ?_, ?_⟩
 ·simp only [aG_.f]; exact r2
 ·simp only [aO_.f]
  have : bg_.f 65535 0 65535 = some true := by decide
  exact Ev_b (Ev_c this) (Ev_t rfl r3)
def five (n : Int) : ByteArray := Bs (List.replicate (5 - (Go.Lib.itoa n).length) 48 ++ Go.Lib.itoa n)
theorem itoa5 (n : Int) (h0 : 0 ≤ n) (h1 : n ≤ 65535) : (Go.Lib.itoa n).length ≤ 5 := by
 obtain ⟨u, rfl⟩ := Int.eq_ofNat_of_zero_le h0
 have : Go.Lib.itoa (u : Int) = Go.Lib.decDigits u := Go.Lib.itoa_nonneg u
 rw [this]
 have key : ∀ (k u : Nat), u < 10 ^ k → 1 ≤ k → (Go.Lib.decDigits u).length ≤ k := by
  intro k
  induction k with
  | zero => intro u h hk; omega
  | succ k ih =>
   intro u h hk
   rw [Go.Lib.decDigits]
   split
   ·simp
   ·rename_i hu
    have h2 : 1 ≤ k := by
     rcases Nat.eq_zero_or_pos k with rfl | h
     ·simp at h; omega
     ·exact h
    have := ih (u / 10) (by rw [Nat.pow_succ] at h; omega) h2
    simp
    omega
 exact key 5 u (by omega) (by omega)
theorem five_spec (n : Int) (h0 : 0 ≤ n) (h1 : n ≤ 65535) : Ev (fun k => aS_.f k n) (five n) := by
 have h5 := itoa5 n h0 h1
 have go : ∀ (d m : Nat), m + d = 5 - (Go.Lib.itoa n).length → Ev (fun k => aS_.l0 k (Bs (List.replicate m 48 ++ Go.Lib.itoa n))) (five n) := by
  intro d
  induction d with
  | zero =>
   intro m h
   refine aJ_ ?_
   simp only [aS_.l0]
   refine Ev_f ?_ (Ev_n (by unfold five; rw [show m = 5 - (Go.Lib.itoa n).length by omega]))
   rw [aQ_]
   simp
   omega
  | succ d ih =>
   intro m h
   refine aJ_ ?_
   simp only [aS_.l0]
   have hs : (Bs (List.replicate m 48 ++ Go.Lib.itoa n)).size = m + (Go.Lib.itoa n).length := by rw [aQ_]; simp
   have e : (⟨#[48]⟩ : ByteArray) ++ Bs (List.replicate m 48 ++ Go.Lib.itoa n) = Bs (List.replicate (m + 1) 48 ++ Go.Lib.itoa n) := by
    have : (⟨#[48]⟩ : ByteArray) = Bs [48] := rfl
    rw [this, Bs_app, List.replicate_succ]
    rfl
   rw [hs, e]
   exact Ev_t (by omega) (Ev_t (by omega) (ih (m + 1) (by omega)))
 simp only [aS_.f]
 refine Ev_b (dec_ev n (by omega) (by omega)) ?_
 have := go _ 0 (Nat.zero_add _)
 simpa [its] using this
theorem five_impl (x : ByteArray) (n : Int) (h0 : 0 ≤ n) (h1 : n ≤ 65535) (h : Ev (fun k => aO_.f k x 65535) n) : Ev (fun k => bf_.f k x) (five n) := by
 have h5 := itoa5 n h0 h1
 have hs : (its n).size = (Go.Lib.itoa n).length := by unfold its; rw [aQ_]
 have hz : (⟨#[48, 48, 48, 48, 48]⟩ : ByteArray) = Bs [48, 48, 48, 48, 48] := rfl
 simp only [bf_.f]
 refine Ev_b h (Ev_b (Ev_c (Decimal_f n (by omega) (by omega))) ?_)
 rw [hs, Int.toNat_natCast]
 have e : (⟨#[48, 48, 48, 48, 48]⟩ : ByteArray).extract (Go.Lib.itoa n).length (⟨#[48, 48, 48, 48, 48]⟩ : ByteArray).size = Bs (List.replicate (5 - (Go.Lib.itoa n).length) 48) := by
  rw [hz, ← bK_ ((Bs [48, 48, 48, 48, 48]).extract _ _), Go.Lib.extract_data, bL_, aQ_]
  congr 1
  generalize (Go.Lib.itoa n).length = m at h5
  have : m = 0 ∨ m = 1 ∨ m = 2 ∨ m = 3 ∨ m = 4 ∨ m = 5 := by omega
  rcases this with rfl | rfl | rfl | rfl | rfl | rfl <;> rfl
 rw [e]
 refine Ev_t (by omega) (Ev_t (by omega) (Ev_t ?_ (Ev_n ?_)))
 ·rw [aQ_]; simp; omega
 ·unfold five its; rw [Bs_app]
theorem index_miss (c : UInt8) : ∀ Y : List UInt8, c ∉ Y → Go.Lib.index Y [c] = -1
 | [], _ => by simp [Go.Lib.index]
 | b :: Y, h => by
  have hb : ¬ c = b := fun e => h (by simp [e])
  have ih := index_miss c Y (fun q => h (by simp [q]))
  have hp : ([c] : List UInt8).isPrefixOf (b :: Y) = false := by simp [List.isPrefixOf, hb]
  rw [Go.Lib.index, hp, ih]
  simp
theorem index_hit (c : UInt8) : ∀ A B : List UInt8, c ∉ A → Go.Lib.index (A ++ c :: B) [c] = (A.length : Int)
 | [], B, _ => by rw [List.nil_append, Go.Lib.index]; simp [List.isPrefixOf]
 | b :: A, B, h => by
  have hb : ¬ c = b := fun e => h (by simp [e])
  have ih := index_hit c A B (fun q => h (by simp [q]))
  have hp : ([c] : List UInt8).isPrefixOf (b :: (A ++ c :: B)) = false := by simp [List.isPrefixOf, hb]
  rw [List.cons_append, Go.Lib.index, hp, ih]
  simp
theorem splitK_miss (c : UInt8) (Y : List UInt8) (h : c ∉ Y) (k : Nat) : Go.Lib.splitK [c] 0 k Y = [Y] := by
 cases k with
 | zero => rfl
 | succ k =>
  rw [Go.Lib.splitK, index_miss c Y h]; try rfl
theorem splitK_hit (c : UInt8) (A B : List UInt8) (h : c ∉ A) (k : Nat) : Go.Lib.splitK [c] 0 (k + 1) (A ++ c :: B) = A :: Go.Lib.splitK [c] 0 k B := by
 have hne : ¬ (((A.length : Nat) : Int) == -1) = true := fun e => by have := beq_iff_eq.1 e; omega
 rw [Go.Lib.splitK, index_hit c A B h, if_neg hne]
 simp
theorem splitN_f (Y : List UInt8) (hY : Y.length ≤ 1048576) (c : UInt8) : strings_SplitN.f (Bs Y) (Bs [c]) 3 = some ((Go.Lib.splitK [c] 0 (min 3 (Y.length + 1) - 1) Y).map Bs) := by
 unfold strings_SplitN.f
 rw [if_pos ⟨by rw [aQ_]; omega, by rw [aQ_]; simp, by omega, by omega⟩]
 congr 1
 have h := Go.Lib.splitB_data (Bs [c]) 0 (min 3 (Y.length + 1) - 1) (Bs Y)
 rw [bL_, bL_] at h
 rw [← h, List.map_map, aQ_]
 conv => lhs; rw [← List.map_id (Go.Lib.splitB _ _ _ _)]
 apply List.map_congr_left
 intro x _
 exact (bK_ x).symm
theorem first_of (c : UInt8) : ∀ Y : List UInt8, c ∉ Y ∨ ∃ A B, Y = A ++ c :: B ∧ c ∉ A
 | [] => .inl (by simp)
 | b :: Y => by
  by_cases h : c = b
  rotate_left
  ·rcases first_of c Y with q | ⟨A, B, e, q⟩
   ·exact .inl (by simp [h, q])
   ·exact .inr ⟨b :: A, B, by simp [e], by simp [h, q]⟩
  exact .inr ⟨[], Y, by simp [h], by simp⟩
abbrev P4 := ByteArray × ByteArray × ByteArray × Int
theorem bt_ne (Y : List UInt8) (i : Nat) (h : i < Y.length) (hn : Y[i] ≠ 32) : ¬ bt (Bs Y) (i : Int) = 32 := by
 rw [bt_in Y i h]
 intro e
 exact hn ((u8_eq Y[i] 32 (by omega)).1 e)
theorem bt_sp (Y : List UInt8) (i : Nat) (h : i < Y.length) (hn : Y[i] = 32) : bt (Bs Y) (i : Int) = 32 := by
 rw [bt_in Y i h, hn]
 rfl
theorem seek0 (Y : List UInt8) (hY : Y.length ≤ 1048576) (r : P4) : ∀ (A P R : List UInt8), Y = P ++ A ++ R → (32 : UInt8) ∉ A → (R = [] ∨ ∃ B, R = 32 :: B) → Ev (fun k => ac_.j2 k (Bs Y) ((P.length + A.length : Nat) : Int)) r → Ev (fun k => ac_.l0 k (Bs Y) (P.length : Int)) r := by
 intro A
 induction A with
 | nil =>
  intro P R h hA hR hj
  refine aJ_ ?_
  simp only [ac_.l0]
  rw [aQ_]
  have hl : Y.length = P.length + R.length := by rw [h]; simp
  rcases hR with rfl | ⟨B, rfl⟩
  ·exact Ev_f (by simp at hl; omega) (by simpa using hj)
  ·simp only [List.length_cons] at hl
   refine Ev_t (by omega) (Ev_t (by omega) (Ev_t (bt_sp Y P.length (by omega) (by simp [h])) (by simpa using hj)))
 | cons b A ih =>
  intro P R h hA hR hj
  refine aJ_ ?_
  simp only [ac_.l0]
  rw [aQ_]
  have hl : Y.length = P.length + (A.length + 1) + R.length := by rw [h]; simp; omega
  refine Ev_t (by omega) (Ev_t (by omega) (Ev_f (bt_ne Y P.length (by omega) (by simp [h]; exact fun e => hA (by simp [e]))) ?_))
  rw [wr64s _ (by omega)]
  have := ih (P ++ [b]) R (by rw [h]; simp) (fun q => hA (by simp [q])) hR (by
   have e : (P ++ [b]).length + A.length = P.length + (b :: A).length := by simp; omega
   rw [e]; exact hj)
  simpa using this
theorem seek1 (Y : List UInt8) (hY : Y.length ≤ 1048576) (x5 : Int) (r : P4) : ∀ (A P R : List UInt8), Y = P ++ A ++ R → (32 : UInt8) ∉ A → (R = [] ∨ ∃ B, R = 32 :: B) → Ev (fun k => ac_.j4 k (Bs Y) x5 ((P.length + A.length : Nat) : Int)) r → Ev (fun k => ac_.l1 k (Bs Y) x5 (P.length : Int)) r := by
 intro A
 induction A with
 | nil =>
  intro P R h hA hR hj
  refine aJ_ ?_
  simp only [ac_.l1]
  rw [aQ_]
  have hl : Y.length = P.length + R.length := by rw [h]; simp
  rcases hR with rfl | ⟨B, rfl⟩
  ·exact Ev_f (by simp at hl; omega) (by simpa using hj)
  ·simp only [List.length_cons] at hl
   refine Ev_t (by omega) (Ev_t (by omega) (Ev_t (bt_sp Y P.length (by omega) (by simp [h])) (by simpa using hj)))
 | cons b A ih =>
  intro P R h hA hR hj
  refine aJ_ ?_
  simp only [ac_.l1]
  rw [aQ_]
  have hl : Y.length = P.length + (A.length + 1) + R.length := by rw [h]; simp; omega
  refine Ev_t (by omega) (Ev_t (by omega) (Ev_f (bt_ne Y P.length (by omega) (by simp [h]; exact fun e => hA (by simp [e]))) ?_))
  rw [wr64s _ (by omega)]
  have := ih (P ++ [b]) R (by rw [h]; simp) (fun q => hA (by simp [q])) hR (by
   have e : (P ++ [b]).length + A.length = P.length + (b :: A).length := by simp; omega
   rw [e]; exact hj)
  simpa using this
abbrev no4 (c : Int) : P4 := ((⟨#[]⟩ : ByteArray), (⟨#[]⟩ : ByteArray), (⟨#[]⟩ : ByteArray), c)
theorem ext3 (Y : List UInt8) (n m : Nat) (a p q : List UInt8) (h : Y = a ++ p ++ q) (h1 : a.length = n) (h2 : n + p.length = m) : (Bs Y).extract n m = Bs p := by
 rw [← bK_ ((Bs Y).extract n m), Go.Lib.extract_data, bL_, h]
 congr 1
 subst h1 h2
 simp
theorem rest_ev (Y : List UInt8) (hY : Y.length ≤ 1048576) : ∃ r : P4, Ev (fun k => ac_.l0 k (Bs Y) 0) r ∧
  ((∃ A C D, Y = A ++ 32 :: (C ++ 32 :: D) ∧ strings_SplitN.f (Bs Y) (⟨#[32]⟩ : ByteArray) 3 = some [Bs A, Bs C, Bs D] ∧ ∃ b, (∀ k, 2000000 < k → aV_.f k (Bs A) (Bs C) (Bs D) = some b ∧ aP_.f k [⟨Bs A, Bs C, Bs D⟩] = some b) ∧ r = if b = true then (Bs A, Bs C, Bs D, 0) else no4 9) ∨
   (∃ l : List ByteArray, l.length < 3 ∧ strings_SplitN.f (Bs Y) (⟨#[32]⟩ : ByteArray) 3 = some l ∧ r = no4 9)) := by
 have hs : (⟨#[32]⟩ : ByteArray) = Bs [32] := rfl
 rw [hs, splitN_f Y hY 32]
 rcases first_of 32 Y with h | ⟨A, B, h, hA⟩
 ·refine ⟨no4 9, ?_, .inr ⟨_, ?_, rfl, rfl⟩⟩
  ·refine seek0 Y hY _ Y [] [] (by simp) h (.inl rfl) (aJ_ ?_)
   simp only [ac_.j2]
   simp only [List.length_nil, Nat.zero_add]
   rw [wr64s _ (by omega)]
   refine aJ_ ?_
   simp only [ac_.l1]
   rw [aQ_]
   refine Ev_f (by omega) (aJ_ ?_)
   simp only [ac_.j4]
   rw [aQ_]
   exact Ev_t (by omega) (Ev_n rfl)
  ·rw [splitK_miss 32 Y h]; simp
 ·have hlA : Y.length = A.length + 1 + B.length := by rw [h]; simp; omega
  have sk : ∀ r, Ev (fun k => ac_.l1 k (Bs Y) (A.length : Int) ((A.length + 1 : Nat) : Int)) r → Ev (fun k => ac_.l0 k (Bs Y) 0) r := fun r hr => by
   refine seek0 Y hY r A [] (32 :: B) (by simp [h]) hA (.inr ⟨B, rfl⟩) (aJ_ ?_)
   simp only [ac_.j2]
   simp only [List.length_nil, Nat.zero_add]
   rw [wr64s _ (by omega)]
   exact hr
  obtain ⟨m, hm⟩ : ∃ m, min 3 (Y.length + 1) - 1 = m + 1 := ⟨min 3 (Y.length + 1) - 2, by omega⟩
  rw [hm, h, splitK_hit 32 A B hA, ← h]
  rcases first_of 32 B with hB | ⟨C, D, hB, hC⟩
  ·refine ⟨no4 9, sk _ ?_, .inr ⟨_, ?_, rfl, rfl⟩⟩
   ·have := seek1 Y hY (A.length : Int) (no4 9) B (A ++ [32]) [] (by simp [h]) hB (.inl rfl) (aJ_ (by
     simp only [ac_.j4]
     rw [aQ_]
     exact Ev_t (by simp; omega) (Ev_n rfl)))
    simpa using this
   ·rw [splitK_miss 32 B hB]; simp
  ·have hlB : B.length = C.length + 1 + D.length := by rw [hB]; simp; omega
   have hm1 : m = 1 := by omega
   subst hm1
   rw [hB, splitK_hit 32 C D hC, Go.Lib.splitK]
   have hh : Y = A ++ 32 :: (C ++ 32 :: D) := by rw [h, hB]
   obtain ⟨b, hb⟩ := validB_ev (⟨Bs A, Bs C, Bs D⟩ : S43) (by show ((Bs D).size : Int) ≤ 1048576; rw [aQ_]; omega)
   refine ⟨if b = true then (Bs A, Bs C, Bs D, 0) else no4 9, sk _ ?_, .inl ⟨A, C, D, hh, by simp, b, fun k hk => ⟨(hb k hk).2, (hb k hk).1⟩, rfl⟩⟩
   have := seek1 Y hY (A.length : Int) (if b = true then (Bs A, Bs C, Bs D, 0) else no4 9) C (A ++ [32]) (32 :: D) (by simp [hh]) hC (.inr ⟨D, rfl⟩) (aJ_ (by
    simp only [ac_.j4]
    rw [aQ_]
    have e1 : ((A ++ [32]).length + C.length : Nat) = A.length + 1 + C.length := by simp
    rw [e1, wr64s A.length (by omega), wr64s (A.length + 1 + C.length) (by omega)]
    refine Ev_f (by omega) (Ev_t (by omega) (Ev_t (by omega) (Ev_s (Ev_t (by omega) (Ev_t (by omega) (Ev_t (by omega) (Ev_s (Ev_t (by omega) (Ev_t (by omega) (Ev_s ?_))))))))))
    rw [Int.toNat_natCast, Int.toNat_natCast, Int.toNat_natCast, Int.toNat_natCast]
    rw [ext3 Y 0 A.length [] A (32 :: (C ++ 32 :: D)) (by simp [hh]) rfl (by simp)]
    rw [ext3 Y (A.length + 1) (A.length + 1 + C.length) (A ++ [32]) C (32 :: D) (by simp [hh]) (by simp) rfl]
    rw [ext3 Y (A.length + 1 + C.length + 1) Y.length (A ++ [32] ++ C ++ [32]) D [] (by simp [hh]) (by simp; omega) (by omega)]
    refine Ev_b (a := b) ⟨2000001, fun k hk => (hb k (by omega)).1⟩ ?_
    cases b with
    | true => exact Ev_t rfl (Ev_n rfl)
    | false => exact Ev_f (by decide) (Ev_n rfl)))
   simpa using this
theorem parse_ev (x : ByteArray) (hx : (x.size : Int) ≤ 1048576) : ∃ r : P4, Ev (fun k => ac_.f k x) r ∧ Ev (fun k => av_.f k x) r ∧ (r.2.2.1.size : Int) ≤ 1048576 ∧ (r.2.2.2 = 0 → ∀ k, 2000000 < k → aV_.f k r.1 r.2.1 r.2.2.1 = some true ∧ aP_.f k [⟨r.1, r.2.1, r.2.2.1⟩] = some true) ∧ (r.2.2.2 ≠ 0 → r = no4 r.2.2.2) := by
 have no9 : Ev (fun k => ac_.j0 k x true) (no4 9) ∧ Ev (fun k => av_.j0 k x true) (no4 9) := by
  constructor
  ·refine aJ_ ?_; simp only [ac_.j0]; exact Ev_t (by first | exact True.intro | rfl) (Ev_n rfl)
  ·refine aJ_ ?_; simp only [av_.j0]; exact Ev_t (by first | exact True.intro | rfl) (Ev_n rfl)
 have bad : ∀ c : Int, c ≠ 0 → ((no4 c).2.2.1.size : Int) ≤ 1048576 ∧ ((no4 c).2.2.2 = 0 → ∀ k, 2000000 < k → aV_.f k (no4 c).1 (no4 c).2.1 (no4 c).2.2.1 = some true ∧ aP_.f k [⟨(no4 c).1, (no4 c).2.1, (no4 c).2.2.1⟩] = some true) ∧ ((no4 c).2.2.2 ≠ 0 → no4 c = no4 (no4 c).2.2.2) := fun c hc => ⟨by show ((0 : Nat) : Int) ≤ 1048576; omega, fun h => absurd h hc, fun _ => rfl⟩
 simp only [ac_.f, av_.f]
 by_cases h6 : (x.size : Int) < 6
 ·exact ⟨no4 9, Ev_t h6 no9.1, Ev_t h6 no9.2, bad 9 (by decide)⟩
 by_cases h5 : (bt x 5 != 32) = true
 ·exact ⟨no4 9, Ev_f h6 (Ev_t (by omega) (by rw [h5]; exact no9.1)), Ev_f h6 (Ev_t (by omega) (by rw [h5]; exact no9.2)), bad 9 (by decide)⟩
 have h5' : (bt x 5 != 32) = false := by simpa using h5
 rw [h5']
 obtain ⟨Y, hY⟩ : ∃ Y, Y = (x.extract 6 x.size).data.toList := ⟨_, rfl⟩
 have hB : x.extract 6 x.size = Bs Y := by rw [hY, bK_]
 have hYl : Y.length ≤ 1048576 := by
  have : (Bs Y).size = Y.length := aQ_ Y
  rw [← hB, ByteArray.size_extract] at this
  omega
 obtain ⟨n, n0, n1, c1, c2⟩ := crc_ev (Bs Y) (by rw [aQ_]; omega)
 have f1 := five_spec n n0 n1
 have f2 := five_impl (Bs Y) n n0 n1 c2
 have go : ∃ r : P4, Ev (fun k => ac_.j0 k x false) r ∧ Ev (fun k => av_.j0 k x false) r ∧ (r.2.2.1.size : Int) ≤ 1048576 ∧ (r.2.2.2 = 0 → ∀ k, 2000000 < k → aV_.f k r.1 r.2.1 r.2.2.1 = some true ∧ aP_.f k [⟨r.1, r.2.1, r.2.2.1⟩] = some true) ∧ (r.2.2.2 ≠ 0 → r = no4 r.2.2.2) := by
  by_cases hd : (x.extract 0 5).toList = (five n).toList
  case neg =>
   refine ⟨no4 10, aJ_ ?_, aJ_ ?_, bad 10 (by decide)⟩
   ·simp only [ac_.j0]
    rw [hB]
    exact Ev_f (by decide) (Ev_t (by omega) (Ev_s (Ev_t (by omega) (Ev_b c1 (Ev_b f1 (Ev_f hd (Ev_n rfl)))))))
   ·simp only [av_.j0]
    rw [hB]
    exact Ev_f (by decide) (Ev_t (by omega) (Ev_s (Ev_t (by omega) (Ev_b f2 (Ev_f hd (Ev_n rfl))))))
  obtain ⟨r, s1, hr⟩ := rest_ev Y hYl
  have sp : Ev (fun k => ac_.j0 k x false) r := by
   refine aJ_ ?_
   simp only [ac_.j0]
   rw [hB]
   exact Ev_f (by decide) (Ev_t (by omega) (Ev_s (Ev_t (by omega) (Ev_b c1 (Ev_b f1 (Ev_t hd s1))))))
  rcases hr with ⟨A, C, D, hYe, hsp, b, hb, rfl⟩ | ⟨l, hl, hsp, rfl⟩
  ·have e0 : rdOf ByteArray.empty [Bs A, Bs C, Bs D] 0 = Bs A := rfl
   have e1 : rdOf ByteArray.empty [Bs A, Bs C, Bs D] 1 = Bs C := rfl
   have e2 : rdOf ByteArray.empty [Bs A, Bs C, Bs D] 2 = Bs D := rfl
   have ip : Ev (fun k => av_.j0 k x false) (if b = true then (Bs A, Bs C, Bs D, 0) else no4 9) := by
    refine aJ_ ?_
    simp only [av_.j0]
    rw [hB]
    refine Ev_f (by decide) (Ev_t (by omega) (Ev_s (Ev_t (by omega) (Ev_b f2 (Ev_t hd (Ev_b (Ev_c hsp) ?_))))))
    have l3 : ((([Bs A, Bs C, Bs D] : List ByteArray).length : Nat) : Int) = 3 := rfl
    rw [l3]
    refine Ev_f (by decide) (Ev_t (by decide) (Ev_t (by decide) (Ev_t (by decide) ?_)))
    rw [e0, e1, e2]
    refine Ev_b (a := b) ⟨2000001, fun k hk => (hb k (by omega)).1⟩ ?_
    cases b with
    | true => exact Ev_t rfl (Ev_n rfl)
    | false => exact Ev_f (by decide) (Ev_n rfl)
   cases b with
   | false => exact ⟨no4 9, sp, ip, bad 9 (by decide)⟩
   | true =>
    refine ⟨(Bs A, Bs C, Bs D, 0), sp, ip, ?_, fun _ k hk => hb k hk, fun h => absurd rfl h⟩
    show ((Bs D).size : Int) ≤ 1048576
    rw [aQ_]
    have : Y.length = A.length + 1 + (C.length + 1 + D.length) := by rw [hYe]; simp; omega
    omega
  ·refine ⟨no4 9, sp, aJ_ ?_, bad 9 (by decide)⟩
   simp only [av_.j0]
   rw [hB]
   exact Ev_f (by decide) (Ev_t (by omega) (Ev_s (Ev_t (by omega) (Ev_b f2 (Ev_t hd (Ev_b (Ev_c hsp) (Ev_t (by omega) (Ev_n rfl))))))))
 obtain ⟨r, g1, g2, g3⟩ := go
 exact ⟨r, Ev_f h6 (Ev_t (by omega) g1), Ev_f h6 (Ev_t (by omega) g2), g3⟩
theorem spl_part (c : UInt8) : ∀ (l x : List UInt8), x ∈ spl c l → x.length ≤ l.length
 | [], x, h => by simp [spl] at h; simp [h]
 | b :: l, x, h => by
  rw [spl] at h
  split at h
  ·rcases List.mem_cons.1 h with rfl | h
   ·simp
   ·have := spl_part c l x h; simp; omega
  ·cases hs : spl c l with
   | nil => exact absurd hs (spl_ne c l)
   | cons a t =>
    rw [hs] at h
    simp only at h
    rcases List.mem_cons.1 h with rfl | h
    ·have := spl_part c l a (by rw [hs]; simp); simp; omega
    ·have := spl_part c l x (by rw [hs]; simp [h]); simp; omega
def lns (s : ByteArray) : List ByteArray := (spl 10 s.data.toList).map Bs
theorem lns_len (s : ByteArray) : 1 ≤ (lns s).length ∧ (lns s).length ≤ s.size + 1 := by
 unfold lns
 rw [List.length_map]
 have h1 := spl_len 10 s.data.toList
 have h2 := spl_ne 10 s.data.toList
 have h3 : s.data.toList.length = s.size := by rw [Array.length_toList]; rfl
 have h4 : 0 < (spl 10 s.data.toList).length := List.length_pos_iff.2 h2
 omega
theorem split_s (s : ByteArray) (hs : (s.size : Int) ≤ 1048576) : Ev (fun k => aC_.f k s 10) (lns s) := by
 have h3 : s.data.toList.length = s.size := by rw [Array.length_toList]; rfl
 have := split_spec s.data.toList (by omega) 10
 rw [bK_] at this
 exact this
theorem lines_ev (s : ByteArray) (hs : (s.size : Int) ≤ 1048576) (n : Nat) (hn : n + 1 = (lns s).length) : Ev (fun k => br_.f k s) ((lns s).take n, (rdOf ByteArray.empty (lns s) (n : Int)).toList == ([] : List UInt8)) := by
 have hl := lns_len s
 have e : wrap64 (((lns s).length : Int) - 1) = (n : Int) := by rw [wr64 (by omega) (by omega)]; omega
 simp only [br_.f]
 refine Ev_b (split_s s hs) ?_
 rw [e]
 exact Ev_t (by omega) (Ev_t (by omega) (Ev_t (by omega) (Ev_n (by rw [Int.toNat_natCast]))))
theorem spl_nl (c : UInt8) : ∀ M : List UInt8, spl c (M ++ [c]) = spl c M ++ [[]]
 | [] => by simp [spl]
 | b :: M => by
  have ih := spl_nl c M
  rw [List.cons_append, spl, spl, ih]
  split
  ·rfl
  ·cases hs : spl c M with
   | nil => exact absurd hs (spl_ne c M)
   | cons a t => rfl
theorem spl_end (c d : UInt8) (hd : d ≠ c) : ∀ M : List UInt8, ∃ P q, spl c (M ++ [d]) = P ++ [q] ∧ q ≠ []
 | [] => ⟨[], [d], by simp [spl, hd], by simp⟩
 | b :: M => by
  obtain ⟨P, q, e, hq⟩ := spl_end c d hd M
  rw [List.cons_append, spl, e]
  split
  ·exact ⟨[] :: P, q, rfl, hq⟩
  ·cases P with
   | nil => exact ⟨[], b :: q, rfl, by simp⟩
   | cons a t => exact ⟨(b :: a) :: t, q, rfl, hq⟩
theorem spl_miss (c : UInt8) : ∀ Y : List UInt8, c ∉ Y → spl c Y = [Y]
 | [], _ => rfl
 | b :: Y, h => by
  rw [spl, if_neg (fun e => h (by simp [e])), spl_miss c Y (fun q => h (by simp [q]))]
theorem spl_hit (c : UInt8) : ∀ A B : List UInt8, c ∉ A → spl c (A ++ c :: B) = A :: spl c B
 | [], B, _ => by rw [List.nil_append, spl, if_pos rfl]
 | b :: A, B, h => by
  rw [List.cons_append, spl, if_neg (fun e => h (by simp [e])), spl_hit c A B (fun q => h (by simp [q]))]
theorem suffix_f (M : List UInt8) (d : UInt8) (hM : M.length < 1000000000) : strings_HasSuffix.f (Bs (M ++ [d])) (⟨#[10]⟩ : ByteArray) = some (decide (d = 10)) := by
 unfold strings_HasSuffix.f stringslite_HasSuffix.f
 have h1 : (⟨#[10]⟩ : ByteArray).size = 1 := rfl
 have h2 : (Bs (M ++ [d])).size = M.length + 1 := by rw [aQ_]; simp
 have ew : wrap64 (((M.length + 1 : Nat) : Int) - ((1 : Nat) : Int)) = (M.length : Int) := by rw [wr64 (by omega) (by omega)]; omega
 rw [h1, h2, ew, if_pos (by omega), if_pos (by omega), if_pos (by omega), Int.toNat_natCast]
 have e : (Bs (M ++ [d])).extract M.length (M.length + 1) = Bs [d] := by
  exact ext3 (M ++ [d]) M.length (M.length + 1) M [d] [] (by simp) rfl rfl
 have e2 : (Bs [d]).toList = [d] := by rw [Go.ByteArray.toList_eq]
 have e3 : (⟨#[10]⟩ : ByteArray).toList = [10] := by rw [Go.ByteArray.toList_eq]
 rw [e, e2, e3]
 simp only [Option.bind_some, Option.some.injEq]
 by_cases hd : d = 10
 rotate_left
 ·simp [hd]
 subst hd; rfl
theorem suffix_0 : strings_HasSuffix.f (Bs []) (⟨#[10]⟩ : ByteArray) = some false := by
 unfold strings_HasSuffix.f stringslite_HasSuffix.f
 have h1 : (⟨#[10]⟩ : ByteArray).size = 1 := rfl
 rw [h1, aQ_, if_neg (by simp)]
 rfl
abbrev arch : List UInt8 := [97, 114, 99, 104, 105, 118, 101, 32]
theorem cut_f (x : List UInt8) (hx : x.length < 1000000000) : (∃ r, x = arch ++ r ∧ strings_CutPrefix.f (Bs x) (⟨#[97, 114, 99, 104, 105, 118, 101, 32]⟩ : ByteArray) = some (Bs r, true)) ∨ ((∀ r, x ≠ arch ++ r) ∧ strings_CutPrefix.f (Bs x) (⟨#[97, 114, 99, 104, 105, 118, 101, 32]⟩ : ByteArray) = some (Bs x, false)) := by
 have h1 : (⟨#[97, 114, 99, 104, 105, 118, 101, 32]⟩ : ByteArray) = Bs arch := rfl
 have h2 : (Bs arch).size = 8 := rfl
 unfold strings_CutPrefix.f stringslite_CutPrefix.f stringslite_HasPrefix.f
 rw [h1, h2, aQ_]
 by_cases hl : 8 ≤ x.length
 rotate_left
 ·refine .inr ⟨fun r hr => hl (by rw [hr]; simp), ?_⟩
  rw [if_neg (by omega)]
  rfl
 rw [if_pos (by omega), if_pos (by omega), if_pos (by omega)]
 have e8 : (((8 : Nat) : Int)).toNat = 8 := rfl
 rw [e8]
 have hx2 : x = x.take 8 ++ x.drop 8 := (List.take_append_drop 8 x).symm
 have t8 : (x.take 8).length = 8 := by rw [List.length_take]; omega
 have e : (Bs x).extract 0 8 = Bs (x.take 8) := ext3 x 0 8 [] (x.take 8) (x.drop 8) (by simp) rfl (by simp [t8])
 have e2 : (Bs x).extract 8 x.length = Bs (x.drop 8) := ext3 x 8 x.length (x.take 8) (x.drop 8) [] (by simp) t8 (by rw [List.length_drop]; omega)
 have e3 : (Bs (x.take 8)).toList = x.take 8 := by rw [Go.ByteArray.toList_eq]
 have e4 : (Bs arch).toList = arch := by rw [Go.ByteArray.toList_eq]
 rw [e, e2, e3, e4]
 by_cases hp : x.take 8 = arch
 rotate_left
 ·refine .inr ⟨fun r hr => hp (by rw [hr]; rfl), ?_⟩
  have : (x.take 8 == arch) = false := by simpa using hp
  rw [this]
  rfl
 refine .inl ⟨x.drop 8, by rw [← hp]; exact hx2, ?_⟩
 rw [hp]
 simp only [Option.bind_some, beq_self_eq_true, if_true]
 rw [if_pos (by omega), if_pos (by omega)]
 rfl
theorem rdec_nosp (r : List UInt8) (h : (rdec (Bs r)).2 = true) : (32 : UInt8) ∉ r := by
 unfold rdec at h
 rw [bL_] at h
 have key : ∀ (neg : Bool) (l : List UInt8), (rdv neg l).2 = true → (32 : UInt8) ∉ l := by
  intro neg l h
  unfold rdv at h
  split at h
  ·rename_i q
   intro hm
   have := q.2.2.1 32 hm
   unfold isD at this
   have e : (32 : UInt8).toNat = 32 := rfl
   omega
  ·cases h
 unfold rdl at h
 split at h
 ·rename_i c l
  split at h
  ·rename_i hc
   intro hm
   rcases List.mem_cons.1 hm with q | q
   ·rw [hc] at q; cases q
   ·exact key _ _ h q
  ·exact key _ _ h
 ·simp
theorem head_ev (x : List UInt8) (hx : x.length ≤ 1048576) : ∃ (c : Int) (ok : Bool), Ev (fun k => aR_.f k (Bs x)) (c, ok) ∧ ∃ (r : ByteArray) (n m : Bool) (c2 : Int), strings_CutPrefix.f (Bs x) (⟨#[97, 114, 99, 104, 105, 118, 101, 32]⟩ : ByteArray) = some (r, n) ∧ Ev (fun k => ao_.f k r) (c2, m) ∧ (ok = (n && (m && (decide (0 ≤ c2) && decide (c2 ≤ 32))))) ∧ (ok = true → c = c2) := by
 have sp := split_spec x (by omega) 32
 have sp : Ev (fun k => aC_.f k (Bs x) 32) ((spl 32 x).map Bs) := sp
 have jt : Ev (fun k => aR_.j0 k ((spl 32 x).map Bs) true) (0, false) := by
  refine aJ_ ?_
  simp only [aR_.j0]
  exact Ev_t (by first | exact True.intro | rfl) (Ev_n rfl)
 have arl : arch = [97, 114, 99, 104, 105, 118, 101] ++ 32 :: ([] : List UInt8) := rfl
 have nosp : (32 : UInt8) ∉ ([97, 114, 99, 104, 105, 118, 101] : List UInt8) := by decide
 simp only [aR_.f]
 rcases cut_f x (by omega) with ⟨r, hr, hc⟩ | ⟨hn, hc⟩
 ·have hs : spl 32 x = [97, 114, 99, 104, 105, 118, 101] :: spl 32 r := by
   rw [hr, arl, List.append_assoc]
   exact spl_hit 32 _ r nosp
  have hrx : x.length = 8 + r.length := by rw [hr]; simp; omega
  have hrl : r.length ≤ 1048576 := by omega
  by_cases h32 : (32 : UInt8) ∈ r
  rotate_left
  ·have hs2 : (spl 32 x).map Bs = [Bs [97, 114, 99, 104, 105, 118, 101], Bs r] := by rw [hs, spl_miss 32 r h32]; rfl
   have e0 : rdOf ByteArray.empty [Bs [97, 114, 99, 104, 105, 118, 101], Bs r] 0 = Bs [97, 114, 99, 104, 105, 118, 101] := rfl
   have e1 : rdOf ByteArray.empty [Bs [97, 114, 99, 104, 105, 118, 101], Bs r] 1 = Bs r := rfl
   have e2 : (Bs [97, 114, 99, 104, 105, 118, 101]).toList = [97, 114, 99, 104, 105, 118, 101] := by rw [Go.ByteArray.toList_eq]
   have l2 : ((([Bs [97, 114, 99, 104, 105, 118, 101], Bs r] : List ByteArray).length : Nat) : Int) = 2 := rfl
   have rs := read_spec (Bs r) (by rw [aQ_]; omega)
   have i2 := in_f (rdec (Bs r)).1 0 32
   have go : ∀ ok : Bool, ok = ((rdec (Bs r)).2 && (decide (0 ≤ (rdec (Bs r)).1) && decide ((rdec (Bs r)).1 ≤ 32))) → Ev (fun k => (aC_.f k (Bs x) 32).bind fun t101 => (if (t101.length : Int) = 2 then (if 0 < (t101.length : Int) then (aR_.j0 k t101 ((rdOf ByteArray.empty t101 0).toList != ([97, 114, 99, 104, 105, 118, 101] : List UInt8))) else (none)) else (aR_.j0 k t101 true))) ((rdec (Bs r)).1, ok) := by
    intro ok hok
    rw [hs2] at sp
    refine Ev_b sp ?_
    rw [l2]
    refine Ev_t rfl (Ev_t (by decide) ?_)
    rw [e0, e2]
    refine aJ_ ?_
    simp only [aR_.j0]
    rw [l2, e1]
    refine Ev_f (by decide) (Ev_t (by decide) (Ev_b rs ?_))
    cases hd : (rdec (Bs r)).2 with
    | false =>
     rw [hd] at hok
     exact Ev_f (by decide) (Ev_n (by rw [hok]; rfl))
    | true =>
     rw [hd] at hok
     refine Ev_t rfl (Ev_b (Ev_c i2) (Ev_n (by rw [hok]; rfl)))
   exact ⟨(rdec (Bs r)).1, _, go _ rfl, Bs r, true, (rdec (Bs r)).2, (rdec (Bs r)).1, hc, read_impl (Bs r), by simp, fun _ => rfl⟩
  refine ⟨0, false, ?_, Bs r, true, (rdec (Bs r)).2, (rdec (Bs r)).1, hc, read_impl (Bs r), ?_, fun h => by cases h⟩
  ·refine Ev_b sp (Ev_f ?_ jt)
   rw [List.length_map, hs, List.length_cons]
   have : 2 ≤ (spl 32 r).length := by
    rcases first_of 32 r with q | ⟨A, B, e, hA⟩
    ·exact absurd h32 q
    ·rw [e, spl_hit 32 A B hA, List.length_cons]
     have := List.length_pos_iff.2 (spl_ne 32 B)
     omega
   omega
  ·cases hd : (rdec (Bs r)).2 with
   | false => rfl
   | true => exact absurd h32 (rdec_nosp r hd)
 ·refine ⟨0, false, ?_, Bs x, false, (rdec (Bs x)).2, (rdec (Bs x)).1, hc, read_impl (Bs x), by simp, fun h => by cases h⟩
  refine Ev_b sp ?_
  by_cases h2 : ((((spl 32 x).map Bs).length : Nat) : Int) = 2
  rotate_left
  ·exact Ev_f h2 jt
  refine Ev_t h2 (Ev_t (by omega) ?_)
  rw [List.length_map] at h2
  have e0 : rdOf ByteArray.empty ((spl 32 x).map Bs) 0 = Bs ((spl 32 x)[0]'(by omega)) := by
   have := rdO_in ((spl 32 x).map Bs) 0 (by rw [List.length_map]; omega)
   simpa using this
  have e1 : (Bs ((spl 32 x)[0]'(by omega))).toList = (spl 32 x)[0]'(by omega) := by rw [Go.ByteArray.toList_eq]
  rw [e0, e1]
  have hne : (((spl 32 x)[0]'(by omega)) != ([97, 114, 99, 104, 105, 118, 101] : List UInt8)) = true := by
   rw [bne_iff_ne]
   intro e
   rcases first_of 32 x with q | ⟨A, B, hAB, hA⟩
   ·rw [spl_miss 32 x q] at h2
    simp at h2
   ·have hs := spl_hit 32 A B hA
    rw [← hAB] at hs
    have : A = [97, 114, 99, 104, 105, 118, 101] := by
     rw [← e]
     simp [hs]
    exact hn B (by rw [hAB, this]; rfl)
  rw [hne]
  exact jt
abbrev R3 := List Blk × Int × Int
set_option maxHeartbeats 4000000 in
theorem loads_ev (Q : List ByteArray) (hQ : Q.length ≤ 1048577) (hs : ∀ x ∈ Q, (x.size : Int) ≤ 1048576) (c : Int) (c1 : c ≤ 32) : ∀ (d j : Nat) (out : List Blk), j + d + 1 = Q.length → out.length = j → ∃ r : R3, r.1.length ≤ 32 ∧ Ev (fun k => an_.l0 k Q c out ((j + 1 : Nat) : Int)) r ∧ Ev (fun k => aa_.l0 k Q c out (Q.drop 1) ((Q.drop 1).length : Int) j) r := by
 intro d
 induction d with
 | zero =>
  intro j out h1 h2
  have hd : (Q.drop 1).length = j := by rw [List.length_drop]; omega
  by_cases e : (out.length : Int) = c
  rotate_left
  ·refine ⟨([], 0, 11), by simp, aJ_ ?_, aJ_ ?_⟩
   ·simp only [an_.l0]; exact Ev_f (by omega) (Ev_f e (Ev_n rfl))
   ·simp only [aa_.l0]; rw [hd]; exact Ev_f (by omega) (Ev_f e (Ev_n rfl))
  refine ⟨(out, 0, 0), by show out.length ≤ 32; omega, aJ_ ?_, aJ_ ?_⟩
  ·simp only [an_.l0]; exact Ev_f (by omega) (Ev_t e (Ev_n rfl))
  ·simp only [aa_.l0]; rw [hd]; exact Ev_f (by omega) (Ev_t e (Ev_n rfl))
 | succ d ih =>
  intro j out h1 h2
  have hd : (Q.drop 1).length = Q.length - 1 := by rw [List.length_drop]
  have hi : j + 1 < Q.length := by omega
  obtain ⟨x, hx⟩ : ∃ x, Q[j + 1]'hi = x := ⟨_, rfl⟩
  have r1 : rdOf ByteArray.empty Q ((j + 1 : Nat) : Int) = x := (rdO_in Q (j + 1) hi).trans hx
  have r2 : rdOf ByteArray.empty (Q.drop 1) (j : Int) = x := by
   rw [rdO_in (Q.drop 1) j (by omega), List.getElem_drop, ← hx]
   congr 1
   omega
  have hxs : (x.size : Int) ≤ 1048576 := hs x (hx ▸ List.getElem_mem hi)
  clear hx
  obtain ⟨q, p1, p2, q1, q2, q3⟩ := parse_ev x hxs
  have w0 : ∀ z : Int, z = (j : Int) + 2 → wrap64 z = ((j + 1 + 1 : Nat) : Int) := fun z hz => by rw [wr64 (by omega) (by omega)]; omega
  have w9 : ∀ z : Int, z = (j : Int) + 1 → wrap64 z = ((j + 1 : Nat) : Int) := fun z hz => by rw [wr64 (by omega) (by omega)]; omega
  by_cases hc : q.2.2.2 = 0
  case neg =>
   refine ⟨([], ((j + 1 + 1 : Nat) : Int), q.2.2.2), by simp, aJ_ ?_, aJ_ ?_⟩
   ·simp only [an_.l0]
    rw [r1, w0 (((j + 1 : Nat) : Int) + 1) (by omega)]
    exact Ev_t (by omega) (Ev_t (by omega) (Ev_b p1 (Ev_f hc (Ev_n rfl))))
   ·simp only [aa_.l0]
    rw [r2]
    refine Ev_t (by omega) (Ev_t (by omega) (Ev_t (by omega) (Ev_b p2 (Ev_f hc (aJ_ ?_)))))
    simp only [aa_.j2]
    rw [w0 ((j : Int) + 2) rfl]
    exact Ev_f (by decide) (Ev_f hc (Ev_n rfl))
  obtain ⟨r, r0, g1, g2⟩ := ih (j + 1) (out ++ [(⟨q.1, q.2.1, q.2.2.1⟩ : Blk)]) (by omega) (by simp; omega)
  have jf : Ev (fun k => aa_.j2 k Q c out j q.2.2.2 (Q.drop 1) ((Q.drop 1).length : Int) j false q.1 q.2.1 q.2.2.1) r := by
   refine aJ_ ?_
   simp only [aa_.j2]
   rw [w9 ((j : Int) + 1) rfl]
   exact Ev_f (by decide) (Ev_t hc (Ev_t (by omega) g2))
  by_cases h0 : j = 0
  rotate_left
  ·have ew2 : ∀ z : Int, z = (j : Int) - 1 → wrap64 z = ((j - 1 : Nat) : Int) := fun z hz => by rw [wr64 (by omega) (by omega)]; omega
   have ro := rdi_Block out (j - 1) (by omega)
   have b1 := bfr_ev (out[j - 1]'(by omega)) (⟨q.1, q.2.1, q.2.2.1⟩ : Blk)
   have b2 := cmp_ev (out[j - 1]'(by omega)).f0 (out[j - 1]'(by omega)).f1 (out[j - 1]'(by omega)).f2 q.1 q.2.1 q.2.2.1
   have b3 : cB (ckB (out[j - 1]'(by omega))) (ckB (⟨q.1, q.2.1, q.2.2.1⟩ : Blk)) = cB ((out[j - 1]'(by omega)).f0.data.toList, (out[j - 1]'(by omega)).f1.data.toList) (q.1.data.toList, q.2.1.data.toList) := rfl
   rw [b3] at b1
   generalize cB ((out[j - 1]'(by omega)).f0.data.toList, (out[j - 1]'(by omega)).f1.data.toList) (q.1.data.toList, q.2.1.data.toList) = z at b1 b2
   by_cases hz : z < 0
   rotate_left
   ·refine ⟨([], ((j + 1 + 1 : Nat) : Int), 7), by simp, aJ_ ?_, aJ_ ?_⟩
    ·simp only [an_.l0]
     rw [r1, w0 (((j + 1 : Nat) : Int) + 1) (by omega), ew2 ((out.length : Int) - 1) (by omega), ro]
     refine Ev_t (by omega) (Ev_t (by omega) (Ev_b p1 (Ev_t hc (Ev_t (by omega) (Ev_t (by omega) (Ev_t (by omega) (Ev_b (a := false) (Ev_c ?_) (Ev_f (by decide) (Ev_n rfl)))))))))
     rw [b1]; simp [hz]
    ·simp only [aa_.l0]
     rw [r2, ew2 ((j : Int) - 1) rfl, ro]
     refine Ev_t (by omega) (Ev_t (by omega) (Ev_t (by omega) (Ev_b p2 (Ev_t hc (Ev_t (by omega) (Ev_t (by omega) (Ev_t (by omega) (Ev_b (Ev_c b2) ?_))))))))
     rw [show decide (z ≥ 0) = true from decide_eq_true (by omega)]
     refine aJ_ ?_
     simp only [aa_.j2]
     rw [w0 ((j : Int) + 2) rfl]
     exact Ev_t (by first | exact True.intro | rfl) (Ev_n rfl)
   refine ⟨r, r0, aJ_ ?_, aJ_ ?_⟩
   ·simp only [an_.l0]
    rw [r1, w0 (((j + 1 : Nat) : Int) + 1) (by omega), ew2 ((out.length : Int) - 1) (by omega), ro]
    refine Ev_t (by omega) (Ev_t (by omega) (Ev_b p1 (Ev_t hc (Ev_t (by omega) (Ev_t (by omega) (Ev_t (by omega) (Ev_b (a := true) (Ev_c ?_) (Ev_t rfl (Ev_t (by omega) g1)))))))))
    rw [b1]; simp [hz]
   ·simp only [aa_.l0]
    rw [r2, ew2 ((j : Int) - 1) rfl, ro]
    refine Ev_t (by omega) (Ev_t (by omega) (Ev_t (by omega) (Ev_b p2 (Ev_t hc (Ev_t (by omega) (Ev_t (by omega) (Ev_t (by omega) (Ev_b (Ev_c b2) ?_))))))))
    rw [show decide (z ≥ 0) = false from decide_eq_false (by omega)]
    exact jf
  refine ⟨r, r0, aJ_ ?_, aJ_ ?_⟩
  ·simp only [an_.l0]
   rw [r1, w0 (((j + 1 : Nat) : Int) + 1) (by omega)]
   exact Ev_t (by omega) (Ev_t (by omega) (Ev_b p1 (Ev_t hc (Ev_f (by omega) (Ev_t (by omega) g1)))))
  ·simp only [aa_.l0]
   rw [r2]
   exact Ev_t (by omega) (Ev_t (by omega) (Ev_t (by omega) (Ev_b p2 (Ev_t hc (Ev_f (by omega) jf)))))
set_option maxHeartbeats 4000000 in
theorem load_ev (s : ByteArray) (hs : (s.size : Int) ≤ 1048576) : ∃ (r0 : List Blk) (r1 r2 : Int), (r0.length : Int) ≤ 1048576 ∧ Ev (fun k => an_.f k s) (r0, r1, r2) ∧ Ev (fun k => aa_.f k s) (r0, r1, r2) := by
 obtain ⟨L, hL⟩ : ∃ L, L = s.data.toList := ⟨_, rfl⟩
 have hB : s = Bs L := by rw [hL, bK_]
 have hll : L.length = s.size := by rw [hL, Array.length_toList]; rfl
 have hln : lns s = (spl 10 L).map Bs := by unfold lns; rw [hL]
 have bad : ∀ x5, Ev (fun k => an_.j0 k x5 true) (([] : List Blk), (0 : Int), (11 : Int)) := fun x5 => by
  refine aJ_ ?_
  simp only [an_.j0]
  exact Ev_t (by first | exact True.intro | rfl) (Ev_n rfl)
 have emp : (Bs []).toList = [] := by rw [Go.ByteArray.toList_eq]
 rcases List.eq_nil_or_concat L with h0 | ⟨M, d, hM⟩
 ·refine ⟨[], 0, 11, by simp, ?_, ?_⟩
  ·have h1 : lns s = [Bs []] := by rw [hln, h0]; rfl
   have hlin := lines_ev s hs 0 (by rw [h1]; rfl)
   rw [h1] at hlin
   simp only [an_.f]
   have e0 : rdOf ByteArray.empty [Bs []] ((0 : Nat) : Int) = Bs [] := rfl
   rw [e0, emp] at hlin
   exact Ev_b hlin (Ev_t rfl (bad _))
  ·simp only [aa_.f]
   rw [hB, h0]
   exact Ev_b (Ev_c suffix_0) (Ev_f (by decide) (Ev_n rfl))
 ·have hM : L = M ++ [d] := by simpa using hM
  have hMl : M.length + 1 = s.size := by rw [← hll, hM]; simp
  by_cases hd : d = 10
  case neg =>
   obtain ⟨P, q, e, hq⟩ := spl_end 10 d hd M
   refine ⟨[], 0, 11, by simp, ?_, ?_⟩
   ·have h1 : lns s = P.map Bs ++ [Bs q] := by rw [hln, hM, e]; simp
    have hlin := lines_ev s hs P.length (by rw [h1]; simp)
    have e0 : rdOf ByteArray.empty (lns s) ((P.length : Nat) : Int) = Bs q := by
     rw [rdO_in (lns s) P.length (by rw [h1]; simp)]
     simp [h1]
    have eq : (Bs q).toList = q := by rw [Go.ByteArray.toList_eq]
    rw [e0, eq, show (q == ([] : List UInt8)) = false by simpa using hq] at hlin
    simp only [an_.f]
    exact Ev_b hlin (Ev_f (by simp) (bad _))
   ·simp only [aa_.f]
    rw [hB, hM]
    refine Ev_b (Ev_c (suffix_f M d (by omega))) (Ev_f ?_ (Ev_n rfl))
    simpa using hd
  subst hd
  obtain ⟨Q, hQ⟩ : ∃ Q, Q = (spl 10 M).map Bs := ⟨_, rfl⟩
  have hQ1 : 1 ≤ Q.length := by rw [hQ, List.length_map]; exact List.length_pos_iff.2 (spl_ne 10 M)
  have hQ2 : Q.length ≤ 1048577 := by rw [hQ, List.length_map]; have := spl_len 10 M; omega
  have hQs : ∀ x ∈ Q, (x.size : Int) ≤ 1048576 := by
   intro x hx
   rw [hQ] at hx
   obtain ⟨y, hy, rfl⟩ := List.mem_map.1 hx
   have := spl_part 10 M y hy
   rw [aQ_]
   omega
  have h1 : lns s = Q ++ [Bs []] := by rw [hln, hM, spl_nl, hQ]; simp
  have hlin := lines_ev s hs Q.length (by rw [h1]; simp)
  have e0 : rdOf ByteArray.empty (lns s) ((Q.length : Nat) : Int) = Bs [] := by
   rw [rdO_in (lns s) Q.length (by rw [h1]; simp)]
   simp [h1]
  have et : (lns s).take Q.length = Q := by rw [h1, List.take_left' rfl]
  rw [e0, emp, et] at hlin
  obtain ⟨x0, hx0⟩ : ∃ x0, Q[0]'(by omega) = Bs x0 := ⟨(Q[0]'(by omega)).data.toList, (bK_ _).symm⟩
  have hx0l : x0.length ≤ 1048576 := by
   have h := hQs (Q[0]'(by omega)) (List.getElem_mem _)
   rw [hx0, aQ_] at h
   omega
  have rq : rdOf ByteArray.empty Q 0 = Bs x0 := by
   have h := rdO_in Q 0 (by omega)
   rw [hx0] at h
   simpa using h
  obtain ⟨c, ok, k1, r, n, m, c2, k2, k3, k4, k5⟩ := head_ev x0 hx0l
  have js : ∀ z : R3, Ev (fun k => if ok = true then (an_.l0 k Q c [] 1) else (some (([] : List Blk), 1, 9))) z → Ev (fun k => an_.f k s) z := by
   intro z hz
   simp only [an_.f]
   refine Ev_b hlin (Ev_t rfl (aJ_ ?_))
   simp only [an_.j0]
   rw [rq]
   refine Ev_f ?_ (Ev_t (by omega) (Ev_b k1 hz))
   intro h
   have := eq_of_beq h
   have h3 : ((Q.length : Nat) : Int) = 0 := this
   omega
  have wi := within_f c2 0 32
  have ji : ∀ z : R3, (Ev (fun k => aa_.j0 k Q c2 (!ok)) z) → Ev (fun k => aa_.f k s) z := by
   intro z hz
   simp only [aa_.f]
   have h2 : (s.size : Int) - 1 = (M.length : Int) := by omega
   have ew : wrap64 ((s.size : Int) - 1) = (M.length : Int) := by rw [h2]; exact wr64 (by omega) (by omega)
   have hsuf : strings_HasSuffix.f s (⟨#[10]⟩ : ByteArray) = some true := by
    rw [hB, hM]; exact suffix_f M 10 (by omega)
   have hex : s.extract 0 M.length = Bs M := by
    rw [hB]; exact ext3 L 0 M.length [] M [10] (by simp [hM]) rfl (by simp)
   have hsp : strings_Split.f (Bs M) (⟨#[10]⟩ : ByteArray) = some Q := by
    have h := split_f (Bs M) (by rw [aQ_]; omega) 10
    rw [bL_, ← hQ] at h
    exact h
   rw [ew]
   refine Ev_b (Ev_c hsuf) (Ev_t rfl (Ev_t (by omega) (Ev_t (by omega) ?_)))
   rw [Int.toNat_natCast, hex]
   refine Ev_b (Ev_c hsp) (Ev_t (by omega) ?_)
   rw [rq]
   refine Ev_b (Ev_c k2) (Ev_b k3 ?_)
   cases n with
   | false =>
    rw [k4] at hz
    exact Ev_f (by simp) hz
   | true =>
    refine Ev_t rfl ?_
    cases m with
    | false =>
     rw [k4] at hz
     exact Ev_f (by simp) hz
    | true =>
     refine Ev_t rfl (Ev_b (Ev_c wi) ?_)
     rw [k4] at hz
     exact hz
  cases ok with
  | false =>
   refine ⟨[], 1, 9, by simp, js _ (Ev_f (by decide) (Ev_n rfl)), ji _ (aJ_ ?_)⟩
   simp only [aa_.j0]
   exact Ev_t (by first | exact True.intro | rfl) (Ev_n rfl)
  | true =>
   have hc := k5 rfl
   subst hc
   have c32 : c ≤ 32 := by
    have h := k4.symm
    simp only [Bool.and_eq_true, decide_eq_true_eq] at h
    exact h.2.2.2
   obtain ⟨z, z0, g1, g2⟩ := loads_ev Q hQ2 hQs c c32 (Q.length - 1) 0 [] (by omega) rfl
   refine ⟨z.1, z.2.1, z.2.2, by omega, js _ (Ev_t rfl g1), ji _ (aJ_ ?_)⟩
   simp only [aa_.j0]
   exact Ev_f (by decide) (Ev_t (by omega) (Ev_s g2))
theorem law_LoadBlocks : ad_.Pure := by
 intro u hu
 have hM : maxLen = 9223372036854775807 := by decide
 refine Ev.rounds (r := true) ?_
 simp only [ad_.f]
 by_cases lu : (u.size : Int) > 1048576
 ·exact Ev_t lu (Ev_n rfl)
 refine Ev_f lu ?_
 obtain ⟨r0, r1, r2, E0, e1, e2⟩ := load_ev u (by omega)
 have qr0 := eqS_Block r0 (by omega) (by first | exact E_r0 | (intro y _; trivial))
 obtain ⟨pr0, _, mr0, hr0⟩ := mk_Block r0 1 (by omega) (by omega) (by omega)
 repeat' (first | ((first | (with_reducible refine Ev_b e1 ?_) | (with_reducible refine Ev_b e2 ?_) | (with_reducible refine Ev_b qr0 ?_) | (with_reducible refine Ev_b mr0 ?_) | (with_reducible refine Ev_b hr0 ?_)); try dsimp only) | (with_reducible refine Ev_t rfl ?_) | (with_reducible refine Ev_t True.intro ?_) | (refine Ev_f (by omega) ?_) | (refine Ev_t (by omega) ?_) | (refine Ev_f (by simp) ?_) | exact Ev_n rfl | (refine aJ_ ?_; first | simp only [ad_.j0] | simp only [ad_.j1] | simp only [ad_.j2]))
end Go.Proofs.YtjebkmfljcanlaaDoor.Q
namespace Go.Proofs.YtjebkmfljcanlaaDoor.Pure
open Go.Proofs.YtjebkmfljcanlaaDoor.Q
theorem FnExactLoadBlocks : ad_.Pure := law_LoadBlocks
end Go.Proofs.YtjebkmfljcanlaaDoor.Pure
namespace Go.Proofs.YtjebkmfljcanlaaDoor.OPN
open Go
theorem wrap_and_shaped {H : Type} {enc : TypeId × Value → H} {a : Assume} {C : Checked} {os : Os} {f : FuncId} {fn : Func} {s : ChangeSpec} {conds : List PathCond} {apart fresh handsOn again : Bool} {X : World → Array Value → Prop}
  (hX : ∀ (w w' : World) (args : Array Value), w.heap = w'.heap → X w args → X w' args)
  (own : ownKnob C.prog.godebug = none) (started : os.Started) (noInit : C.prog.inits.idxOf? f = none) (hfn : C.prog.funcs[f]? = some fn)
  (witness : ∃ (w : World) (tape : Tape) (i : Input), w.os = os ∧ (w.forCall tape i).Shaped C.prog ∧ i.vars = [] ∧ Input.okWide C.prog (w.forCall tape i) .any w.heap.size f i ∧
   ((s.pre enc C.prog fn conds apart (w.forCall tape i).memory i.args ∧ X (w.forCall tape i).memory i.args) ∧ sizedMet enc C.prog fn (OpenSpec.ofChange s) apart (w.forCall tape i).memory i.args) ∧ a.holds C.prog (lone (Frame.enter C.prog f i.args .normal) [] (w.forCall tape i)))
  (contract : ∀ (W : World) (base : Nat) (args : Array Value) (ds gs : List (DataW H)) (before : List MemPlace),
   (∀ (j : Nat) t v, fn.params[j]? = some t → args[j]? = some v → Value.okWide C.prog W .any base t v) →
   DataW.Whole enc C.prog fn.params.toList s.vars apart W args.toList ds gs before →
   conds.all (PathCond.test C.prog ⟨fn.params.toList, ds, s.plain.varTypes C.prog, gs⟩) = true →
   (DataW.weightsEach C.prog (fn.params.toList ++ s.plain.varTypes C.prog) (ds ++ gs)).all (· ≤ reachBytes) = true → X W args → W.ShapedOpen C.prog →
   a.holds C.prog (lone (Frame.enter C.prog f args .normal) [] W) →
   Calls C.prog f args W fun e W' => ∃ v, e = .returned v ∧ s.post enc C.prog fn apart fresh handsOn again W args v W') :
  ReturnsInHanded a C os f .any (fun w args => (s.pre enc C.prog fn conds apart w args ∧ X w args) ∧ sizedMet enc C.prog fn (OpenSpec.ofChange s) apart w args) (s.post enc C.prog fn apart fresh handsOn again) := by
 refine returnsInHanded_of_calls own started noInit witness ?_
 intro w tape i _ hsh _ hok hpre hholds
 obtain ⟨_, _, _, fn', hfn', _, _, _, _, hval⟩ := hok
 have e : fn' = fn := Option.some.inj (hfn'.symm.trans hfn)
 subst e
 obtain ⟨⟨⟨ds, gs, before, hw, hc⟩, hx⟩, hz⟩ := hpre
 have hw' := DataW.Whole.of_heap (w' := w.forCall tape i) (by rfl) hw
 refine (contract (w.forCall tape i) w.heap.size i.args ds gs before hval hw' hc (hz.weights hw) (hX _ _ _ (by rfl) hx) hsh hholds).mono fun e W' ⟨v, he, hp⟩ => ?_
 subst he
 exact ChangeSpec.post_blind hp
end Go.Proofs.YtjebkmfljcanlaaDoor.OPN
namespace Go.Proofs.YtjebkmfljcanlaaDoor.fnExactLoadBlocks
open Go.ChangeShapes Go.WideShapes Go.ChangeAt Go.RowKit Go.Proofs.YtjebkmfljcanlaaDoor.OPN Go.Proofs.YtjebkmfljcanlaaDoor.Q Go.Proofs.YtjebkmfljcanlaaDoorW.PrintWords
open Go.ChangeMaps (open_string shut_string)
theorem own : ownKnob Tryd.prog.godebug = none := by kernel_rfl
theorem laidOut : laidOutB Tryd.prog = true := by kernel_rfl
theorem tab_of {W : World} (hL : laidMetH Tryd.prog Rows.fnExactLoadBlocksRow.laid W) (hsh : W.ShapedOpen Tryd.prog) : Tab_ W := by
 refine ⟨?_, ?_⟩
 ·have hl := hL
  rw [MakeChecks.laidMetH_plain _ _ _ (by kernel_rfl)] at hl
  have h1 := (laidMet.tail (laidMet.tail hl))
  have e_ : (Rows.laid_internal_strconv_uint64pow10 : DataW Unit) = Lib.tabData .u64 Lib.pow10Tab := by rfl
  refine Lib.tabIs_of_head (g := 3) (t := 132) (e := 79) (n := 20) (rest := [("unicode/utf8.acceptRanges", Rows.laid_unicode_utf8_acceptRanges), ("unicode/utf8.first", Rows.laid_unicode_utf8_first)]) (by kernel_rfl) (by kernel_rfl) Tryd.underlying132 Tryd.underlying79 (by kernel_rfl) (by kernel_rfl) ?_
  rw [← e_]
  exact h1
 ·exact Tryd.laysM219.s1_3 W hsh
set_option maxRecDepth 100000 in
theorem lifted (os : Os) (started : os.Started) (H : Type) (enc : TypeId × Value → H) :
  ReturnsInHanded {} Tryd.checked os 4 .any (fun w args => (Rows.fnExactLoadBlocksSpec.pre enc Tryd.prog Tryd.f4 Rows.fnExactLoadBlocksRow.domain false w args ∧ laidMetH Tryd.prog Rows.fnExactLoadBlocksRow.laid w) ∧ sizedMet enc Tryd.prog Tryd.f4 (OpenSpec.ofChange Rows.fnExactLoadBlocksSpec) false w args) (Rows.fnExactLoadBlocksSpec.post enc Tryd.prog Tryd.f4 false true false false) := by
 refine wrap_and_shaped (C := Tryd.checked) (X := fun w _ => laidMetH Tryd.prog Rows.fnExactLoadBlocksRow.laid w) (fun _ _ _ hh h => h.of_heap hh) own started (by kernel_rfl) Tryd.func4
  (ChangeSpec.witness_shaped (enc := enc) (C := Tryd.checked) (os := os) (X := fun w _ => laidMetH Tryd.prog Rows.fnExactLoadBlocksRow.laid w) false (World.laidAll Tryd.prog os Rows.fnExactLoadBlocksRow.laid) #[.string ByteArray.empty] 8 (World.laidAll_os _ _ _) (World.shaped_of_ZipB (by kernel_rfl) (by kernel_rfl)) (by kernel_rfl) (by kernel_rfl) (by kernel_rfl) (by rw [MakeChecks.laidMetH_plain _ _ _ (by kernel_rfl)]; exact laidMet_laidAll _ (by kernel_rfl) (by kernel_rfl))) ?_
 intro W base args ds gs before hval0 hW hcnd hsz0 hL hsh _
 have hTab := tab_of hL hsh
 clear hL hsh
 have hval : ∀ (j : Nat) t v, Tryd.f4.params[j]? = some t → args[j]? = some v → Value.okWide Tryd.prog W .any base t v := hval0
 have hW' := hW
 obtain ⟨p, q, hA0, hV, rfl, hfz, hnd⟩ := hW
 have hA : DataW.TrodAll enc Tryd.prog W 0 (fun _ => true) true Tryd.f4.params.toList args.toList ds p := hA0
 rw [Tryd.params4] at hA hval
 obtain ⟨v0, vs0, d0, ds0, p0, q0, hargs, rfl, rfl, h0, r0⟩ := trodAll_cons hA
 obtain ⟨rfl, rfl, rfl⟩ := trodAll_nil r0
 obtain rfl : args = #[v0] := by cases args; simp_all
 obtain ⟨rfl, rfl⟩ := trodVars_none hV
 obtain ⟨x0, rfl, rfl, rfl, w0⟩ := open_string Tryd.underlying9 (hval 0 9 v0 rfl rfl) h0
 clear hA0 hval0 hsz0
 obtain ⟨k, hP⟩ := Pure.FnExactLoadBlocks x0 w0
 refine (ad_.calls k x0 true W hTab hP).mono fun e W' hh => ?_
 obtain ⟨rfl, bel0⟩ := hh
 have bel : Below W.heap.size W W' := bel0
 exact ⟨_, rfl, _, _, _, [], _, [], hW', trodAll_mk1 (shut_bool Tryd.underlying4 _), (trodAll_cons_mk (shut_string Tryd.underlying9 w0) trodAll_mk0), rfl, bel.frame _, fun h => by cases h⟩
theorem over : Rows.fnExactLoadBlocksRow.holds Tryd.pinned (OpenSpec.ofChange Rows.fnExactLoadBlocksSpec) :=
 OpenClaim.holds_of_wide 4 Tryd.f4 rfl rfl rfl rfl rfl rfl rfl ⟨rfl, rfl, rfl, rfl, rfl⟩ rfl rfl rfl rfl rfl (by kernel_rfl) Tryd.func4 (by kernel_rfl)
  (of_decide_eq_true (by kernel_rfl)) (by unfold Func.isWrapper; first | (rw [if_pos (by decide +kernel)]; kernel_rfl) | (rw [if_neg (by decide +kernel)]; exact ⟨rfl, rfl⟩))
  (fun os started H enc _ => lifted os started H enc)
theorem proved : Rows.FnExactLoadBlocksSaid := over
#print axioms proved
end Go.Proofs.YtjebkmfljcanlaaDoor.fnExactLoadBlocks
namespace Go.Proofs.YtjebkmfljcanlaaDoor
open Go
theorem fnExactLoadBlocks_holds : Rows.FnExactLoadBlocksCardSaid :=
 Claim7.holds_tied_plain_at .later [] [.data, .data, .data, .data, .pinned] true (true, "86b63af80d4f52972ed28c49f965f15c9686d21a29e66773e83e1a2c4e98e785") false fnExactLoadBlocks.proved (fun _ h => by cases h) (by kernel_rfl) (fun _ h => by cases h) fnExactLoadBlocks_row_tie rfl ⟨rfl, rfl⟩ (by kernel_rfl) rfl
  (fun f fn hf hfn => by
   obtain rfl : f = 4 := Option.some.inj ((show Tryd.prog.funcNamed "loop.example/g00956/laws.FnExactLoadBlocks" = some 4 by kernel_rfl).symm.trans hf) |>.symm
   obtain rfl : fn = Tryd.f4 := (Option.some.inj (Tryd.func4.symm.trans hfn)).symm
   exact ⟨by kernel_rfl, fun j t ht => by
    rw [Tryd.params4] at ht
    have hm : t ∈ [9] := by simpa using Array.mem_of_getElem? ht
    have hall : ([9].all fun u => !Tryd.prog.wantsStandIn u) = true := by kernel_rfl
    exact (show Tryd.prog.wantsStandIn t = false by simpa using List.all_eq_true.1 hall t hm)⟩)
  (by kernel_rfl)
end Go.Proofs.YtjebkmfljcanlaaDoor
