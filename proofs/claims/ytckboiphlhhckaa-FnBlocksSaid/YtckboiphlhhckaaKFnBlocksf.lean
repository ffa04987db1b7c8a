/- For all drawn lists of blocks: removing a block undoes adding it, and merging keeps all blocks of the second list (FnBlocks). Conditions: none beyond the statement. This text holds the last walks, the plain law and the row. -/
import Derived.Lib.Bytealg
import Derived.DataReads
import Derived.Carry
import Derived.ChangeShapes
import Derived.KernelRfl
import Derived.Laws.BitsLemmas
import Derived.Lib.ItoaLen
import Derived.Lib.SplitLaws
import Derived.Lib.IndexBytes
import Derived.Lib.Join
import Derived.SizedLaws
import Derived.ChangeSlices
import Derived.Test.YtckboiphlhhckaaRows
import Derived.WalkKit
import Derived.ProofKit
import Derived.OpenShut
import Derived.ShutString
import Derived.ChangeOld
import Derived.Below
import Derived.Test.YtckboiphlhhckaaKFnBlocksa
import Derived.Test.YtckboiphlhhckaaKFnBlocksb
import Derived.Test.YtckboiphlhhckaaKFnBlockse
import Derived.Test.YtckboiphlhhckaaKFnBlocksc
import Derived.Test.YtckboiphlhhckaaKFnBlocksd
set_option linter.unusedVariables false
set_option linter.unusedSimpArgs false
namespace Go.Proofs.Ytckboiphlhhckaa.Q
open Go.RowKit Go.Proofs.YtckboiphlhhckaaW.PrintWords Go.Proofs.YtckboiphlhhckaaW.PrintLast Go.Proofs.YtckboiphlhhckaaW.PrintMore
attribute [local go_sem] aU_ aV_ bj_ bi_ aH_ aJ_ aS_ aT_
def aE_.l0 : Nat → List (S32) → ByteArray → List ByteArray → Int → Option (List ByteArray × Int)
 | 0, _, _, _, _ => none
 | k + 1, x0, x1, x6, x7 => if x7 < (x0.length : Int) then (if 0 ≤ x7 then (if ((aa_ x0 x7).f0).toList = x1.toList then (if x6.length < 8796093022208 then (aE_.l0 k x0 x1 (x6 ++ [(aa_ x0 x7).f1]) (wrap64 (x7 + 1))) else (none)) else (aE_.l0 k x0 x1 x6 (wrap64 (x7 + 1)))) else (none)) else (some (x6, 0))
def aE_.f (k : Nat) (l0 : List (S32)) (a1 : ByteArray) : Option (List ByteArray × Int) := (aC_.f k l0).bind fun t101 => (if t101 = true then (aE_.l0 k l0 a1 (([] : List ByteArray)) 0) else (some (([] : List ByteArray), 1)))
set_option maxHeartbeats 8000000 in
set_option maxRecDepth 100000 in
theorem aE_.calls (k : Nat) (A0 : Option Addr) (c0 : Nat) (l0 : List (S32)) (a1 : ByteArray) (r1 : List ByteArray) (r2 : Int) (w : World) (hr0 : Kd.C k32 w A0 l0.length l0) (hc0 : l0.length ≤ c0) (h : aE_.f k l0 a1 = some (r1, r2)) :
  Calls Try.prog 25 #[.slice A0 l0.length c0, .string a1] w fun e w' => ∃ v0_ : Value, e = .returned (.tuple #[v0_, .int .i64 r2]) ∧ Kd.R Kd.string 9 w' w.heap.size (fun _ => True) v0_ r1 ∧ Below w.heap.size w w' := by
 have HR0 := Aside0.mk hr0
 have HC0 := Aside0.mk hc0
 clear hr0 hc0
 have HB := Aside0.mk (Below.refl w.heap.size w)
 have H : ((aC_.f k l0).bind fun t101 => (if t101 = true then (aE_.l0 k l0 a1 (([] : List ByteArray)) 0) else (some (([] : List ByteArray), 1)))) = some (r1, r2) := h
 clear h
 replace H := Option.bind_eq_some_iff.mp H
 obtain ⟨t101, A30, H⟩ := H
 (try dsimp only at H)
 have A3 := Aside0.mk A30
 clear A30
 have HC4 := Aside0.mk H
 clear H
 go_enter Try.func25, Try.ntmps25
 go_upto_if 10 with (first | ((with_reducible refine al_ (f := 46) rfl ?_); refine ba_ (some 9) rfl rfl Try.func46 (by kernel_rfl) rfl #[.slice A0 l0.length c0] rfl (by first | rfl | (simp only [lma_, lmc_, lmn_]; first | done | rfl)) ?_; (with_reducible refine (aC_.calls k _ _ l0 t101 _ ?side1 ?side2 A3.out).mono ?_); (case side1 => exact cz HR0.out); (case side2 => exact HC0.out); rintro e w' ⟨rfl, ⟨nd, rfl⟩⟩; refine ⟨_, rfl, ?_⟩))
 (try simp only [Act.put, lsa_, ls0_, ls1_])
 have H := HC4.out
 clear HC4
 by_cases c5 : t101 = true
 rotate_left
 ·replace c5 := Bool.eq_false_iff.mpr c5
  subst c5
  have H1 : (some (([] : List ByteArray), 1)) = some (r1, r2) := by rw [if_neg (show ¬ (false = true) by decide)] at H; exact H
  clear H
  have H := H1
  clear H1
  simp only [Option.some.injEq, Prod.mk.injEq] at H
  obtain ⟨rfl, rfl⟩ := H
  go_wp2
  go_ret2
  exact ⟨_, by first | rfl | (simp [*, ay_, az_] <;> rfl), by first | exact Kd.R_nil _ _ _ _ _ | exact Kd.N_nil _ _ _ _ _ | exact Kd.V_nil _ _ _ _ _ | exact Kd.Q_nil _ _ _ _ _ | exact Kd.S_nil _ _ _ _ _, bz HB.out⟩
 subst c5
 have H1 : (aE_.l0 k l0 a1 (([] : List ByteArray)) 0) = some (r1, r2) := by rw [if_pos rfl] at H; exact H
 clear H
 have H := H1
 clear H1
 obtain ⟨y102, hy102⟩ : ∃ y_ : List ByteArray, y_ = (([] : List ByteArray)) := ⟨_, rfl⟩
 replace H : (aE_.l0 k l0 a1 y102 0) = some (r1, r2) := by first | (rw [hy102]; with_reducible exact H) | (have H2_ := (Option.bind_some _ _).symm.trans H; rw [hy102]; with_reducible exact H2_) | (have H2_ := (Option.bind_some _ _).symm.trans H; with_reducible exact H2_) | with_reducible exact H | (rw [hy102]; exact H) | exact H
 have Ny102 := Aside0.mk hy102
 clear hy102
 have H' := Aside0.mk H
 clear H
 go_wp2_with (first | ((with_reducible refine aO_ (N := 11) rfl ?_); refine Kd.R_lit Kd.string _ 9 ?hg (N := 11) ?hd (xs := ([] : List ByteArray)) (inner := []) (ok := fun _ => True) (okp := fun _ => True) ?hr ?hp (fun _ hk => hk) trivial (Below.refl _ _) (Nat.le_refl _) (by simp) ?_; (case hd => rfl); (case hg => rfl); (case hr => (go_simp; try rfl)); (case hp => exact (Reps.none _ _)); intro v103 w6 ho7 hb hg_ hnew_; clear hg_ hnew_; (first | rw [← Ny102.out] at ho7 | (simp only [Int.reduceToNat] at ho7; rw [← Ny102.out] at ho7)); have HO104 := Aside0.mk (Kd.bp_ ho7 (am_ (bz HB.out))); replace HB := Aside0.mk (ah_ (bz HB.out) hb); clear hb ho7))
 (try simp only [Act.put, lsa_, ls0_, ls1_])
 go_loopg [6, 7] k (fun kq v6 v7 w' => ∃ (x6_1 : List ByteArray) (x7_1 : Int), v7 = .int .i64 x7_1 ∧ Aside0 (aE_.l0 kq l0 a1 x6_1 x7_1 = some (r1, r2)) ∧ Aside0 (kq ≤ k) ∧ Aside0 (Kd.R Kd.string 9 w' w.heap.size (fun _ => True) v6 x6_1) ∧ Aside0 (Below w.heap.size w w'))
 case atStart => exact ⟨(y102), (0), (by first | rfl | (simp; done) | (simp [*]; done)), H', ⟨Nat.le_refl _⟩, ⟨rz HO104.out⟩, ⟨bz HB.out⟩⟩
 case round =>
  clear H'
  obtain ⟨x6_1, x7_1, rfl, HA, HK1, HO_6, HB⟩ := hrel
  cases gk with
  | zero => exact absurd HA.out (by simp [aE_.l0])
  | succ k1 =>
   have H := HA.out
   clear HA
   simp only [aE_.l0] at H
   by_cases c8 : x7_1 < (l0.length : Int)
   rotate_left
   ·rw [if_neg c8] at H
    have c8b0 : decide (x7_1 < (l0.length : Int)) = false := decide_eq_false c8
    clear c8
    (first | rw [c8b0] | (simp only [i64_w, i32_w]; rw [c8b0]) | (simp only [c8b1, Bool.not_true, Bool.not_false]) | (simp only [c8b0, Bool.not_true, Bool.not_false]) | skip)
    simp only [Option.some.injEq, Prod.mk.injEq] at H
    obtain ⟨rfl, rfl⟩ := H
    go_wp2
    go_ret2
    exact ⟨_, by first | rfl | (simp [*, ay_, az_] <;> rfl), rz HO_6.out, bz HB.out⟩
   rw [if_pos c8] at H
   have c8b0 : decide (x7_1 < (l0.length : Int)) = true := decide_eq_true c8
   clear c8
   (first | rw [c8b0] | (simp only [i64_w, i32_w]; rw [c8b0]) | (simp only [c8b1, Bool.not_true, Bool.not_false]) | (simp only [c8b0, Bool.not_true, Bool.not_false]) | skip)
   by_cases c9 : 0 ≤ x7_1
   rotate_left
   ·rw [if_neg c9] at H
    exact absurd H (by simp)
   rw [if_pos c9] at H
   have c9b0 : decide (0 ≤ x7_1) = true := decide_eq_true c9
   clear c9
   by_cases c10 : ((aa_ l0 x7_1).f0).toList = a1.toList
   rotate_left
   ·rw [if_neg c10] at H
    have c10b0 : (((aa_ l0 x7_1).f0).toList == a1.toList) = false := beq_eq_false_iff_ne.mpr c10
    have c10b1 : (((aa_ l0 x7_1).f0).toList != a1.toList) = true := bne_iff_ne.mpr c10
    have H' := Aside0.mk H
    clear H
    have p105 : 0 ≤ (x7_1 : Int) := of_decide_eq_true (by assumption)
    have q105 : x7_1 < (l0.length : Int) := of_decide_eq_true (by assumption)
    obtain ⟨ad105, e105, hx105_0, hx105_1, hx105_2⟩ := bf_ HR0.out x7_1 p105 q105
    cases e105
    replace hx105_0 := bu_ HB.out hx105_0
    replace hx105_1 := bu_ HB.out hx105_1
    replace hx105_2 := bu_ HB.out hx105_2
    replace p105 := eq_true p105
    replace q105 := eq_true q105
    go_wp2
    go_roundg k1
    case measure => have := HK1.out; omega
    case rel => exact ⟨(x6_1), (wrap64 (x7_1 + 1)), (by first | rfl | (simp; done) | (simp [*]; done)), H', ⟨by have := HK1.out; omega⟩, ⟨rz HO_6.out⟩, ⟨bz HB.out⟩⟩
   rw [if_pos c10] at H
   have c10b0 : (((aa_ l0 x7_1).f0).toList == a1.toList) = true := beq_iff_eq.mpr c10
   have c10b1 : (((aa_ l0 x7_1).f0).toList != a1.toList) = false := bne_eq_false_iff_eq.mpr c10
   clear c10
   by_cases c11 : x6_1.length < 8796093022208
   rotate_left
   ·rw [if_neg c11] at H
    exact absurd H (by simp)
   rw [if_pos c11] at H
   have LMc11 := Aside0.mk c11
   clear c11
   obtain ⟨y107, hy107⟩ : ∃ y_ : List ByteArray, y_ = (x6_1 ++ [(aa_ l0 x7_1).f1]) := ⟨_, rfl⟩
   replace H : (aE_.l0 k1 l0 a1 y107 (wrap64 (x7_1 + 1))) = some (r1, r2) := by first | (rw [hy107]; with_reducible exact H) | (have H2_ := (Option.bind_some _ _).symm.trans H; rw [hy107]; with_reducible exact H2_) | (have H2_ := (Option.bind_some _ _).symm.trans H; with_reducible exact H2_) | with_reducible exact H | (rw [hy107]; exact H) | exact H
   have Ny107 := Aside0.mk hy107
   clear hy107
   have H' := Aside0.mk H
   clear H
   have p105 : 0 ≤ (x7_1 : Int) := of_decide_eq_true (by assumption)
   have q105 : x7_1 < (l0.length : Int) := of_decide_eq_true (by assumption)
   obtain ⟨ad105, e105, hx105_0, hx105_1, hx105_2⟩ := bf_ HR0.out x7_1 p105 q105
   cases e105
   replace hx105_0 := bu_ HB.out hx105_0
   replace hx105_1 := bu_ HB.out hx105_1
   replace hx105_2 := bu_ HB.out hx105_2
   replace p105 := eq_true p105
   replace q105 := eq_true q105
   have p106 : 0 ≤ (x7_1 : Int) := of_decide_eq_true (by assumption)
   have q106 : x7_1 < (l0.length : Int) := of_decide_eq_true (by assumption)
   obtain ⟨ad106, e106, hx106_0, hx106_1, hx106_2⟩ := bf_ HR0.out x7_1 p106 q106
   obtain rfl : ad105 = ad106 := (by injection e106)
   replace hx106_0 := bu_ HB.out hx106_0
   replace hx106_1 := bu_ HB.out hx106_1
   replace hx106_2 := bu_ HB.out hx106_2
   replace p106 := eq_true p106
   replace q106 := eq_true q106
   go_wp2_with (first | ((with_reducible refine aP_ (b := .append) (xs := #[.tmp 25, .tmp 31]) rfl ?_); at_builtin; refine Kd.bM_ Kd.string (w0 := w) w.heap.size rfl (.tmp 25) (.tmp 31) 40 9 (.string ⟨#[]⟩) 16 rfl Try.underlying40 info9 rfl (by decide) (by omega) u6 x6_1 ((aa_ l0 x7_1).f1) [.string ((aa_ l0 x7_1).f1)] (fun _ => True) (fun _ => False) rfl rfl ?aP (fun _ hk => hk.elim) ?aF ?aO ?aB ?aS ?aL ?_; (case aP => exact rfl); (case aB => exact (bz HB.out)); (case aF => exact (fun _ _ => trivial)); (case aO => exact (rz HO_6.out)); (case aS => exact (am_ (bz HB.out))); (case aL => have := LMc11.out; omega); intro v108 w12 ho hb hg hat; rw [← Ny107.out] at ho; replace HB := Aside0.mk (hb); have HO109 := Aside0.mk (ho); clear HO_6; clear ho hb hg hat))
   go_roundg k1
   case measure => have := HK1.out; omega
   case rel => exact ⟨(y107), (wrap64 (x7_1 + 1)), (by first | rfl | (simp; done) | (simp [*]; done)), H', ⟨by have := HK1.out; omega⟩, ⟨rz HO109.out⟩, ⟨bz HB.out⟩⟩
def cd_.f (k : Nat) (l0 : List (S32)) (a1 : ByteArray) (a2 : ByteArray) : Option ((List (S32)) × Int) := (aC_.f k l0).bind fun t101 => (if t101 = true then ((bk_.f k l0 a1 a2).bind fun t102 => (if t102 < 0 then (some (([] : List (S32)), 3)) else ((some (([] : List (S32)) : List (S32))).bind fun y103 => (if 0 ≤ t102 then (if t102 ≤ (l0.length : Int) then ((some (l0.take (t102 : Int).toNat : List (S32))).bind fun y106 => (if y103.length + y106.length < 2932031007402 then ((some (y103 ++ y106 : List (S32))).bind fun y110 => (if 0 ≤ (wrap64 (t102 + 1)) then (if (wrap64 (t102 + 1)) ≤ (l0.length : Int) then ((some (l0.drop ((wrap64 (t102 + 1)) : Int).toNat : List (S32))).bind fun y113 => (if y110.length + y113.length < 2932031007402 then (some ((y110 ++ y113), 0)) else (none))) else (none)) else (none))) else (none))) else (none)) else (none))))) else (some (([] : List (S32)), 1)))
set_option maxHeartbeats 8000000 in
set_option maxRecDepth 100000 in
theorem cd_.calls (k : Nat) (A0 : Option Addr) (c0 : Nat) (l0 : List (S32)) (a1 : ByteArray) (a2 : ByteArray) (r1 : List (S32)) (r2 : Int) (w : World) (hr0 : Kd.C k32 w A0 l0.length l0) (hc0 : l0.length ≤ c0) (h : cd_.f k l0 a1 a2 = some (r1, r2)) :
  Calls Try.prog 31 #[.slice A0 l0.length c0, .string a1, .string a2] w fun e w' => ∃ v0_ : Value, e = .returned (.tuple #[v0_, .int .i64 r2]) ∧ Kd.R k32 32 w' w.heap.size (fun _ => True) v0_ r1 ∧ Below w.heap.size w w' := by
 have HR0 := Aside0.mk hr0
 have HC0 := Aside0.mk hc0
 clear hr0 hc0
 have HB := Aside0.mk (Below.refl w.heap.size w)
 have H : ((aC_.f k l0).bind fun t101 => (if t101 = true then ((bk_.f k l0 a1 a2).bind fun t102 => (if t102 < 0 then (some (([] : List (S32)), 3)) else ((some (([] : List (S32)) : List (S32))).bind fun y103 => (if 0 ≤ t102 then (if t102 ≤ (l0.length : Int) then ((some (l0.take (t102 : Int).toNat : List (S32))).bind fun y106 => (if y103.length + y106.length < 2932031007402 then ((some (y103 ++ y106 : List (S32))).bind fun y110 => (if 0 ≤ (wrap64 (t102 + 1)) then (if (wrap64 (t102 + 1)) ≤ (l0.length : Int) then ((some (l0.drop ((wrap64 (t102 + 1)) : Int).toNat : List (S32))).bind fun y113 => (if y110.length + y113.length < 2932031007402 then (some ((y110 ++ y113), 0)) else (none))) else (none)) else (none))) else (none))) else (none)) else (none))))) else (some (([] : List (S32)), 1)))) = some (r1, r2) := h
 clear h
 replace H := Option.bind_eq_some_iff.mp H
 obtain ⟨t101, A40, H⟩ := H
 (try dsimp only at H)
 have A4 := Aside0.mk A40
 clear A40
 have HC5 := Aside0.mk H
 clear H
 go_enter Try.func31, Try.ntmps31
 go_upto_if 12 with (first | ((with_reducible refine al_ (f := 46) rfl ?_); refine ba_ (some 11) rfl rfl Try.func46 (by kernel_rfl) rfl #[.slice A0 l0.length c0] rfl (by first | rfl | (simp only [lma_, lmc_, lmn_]; first | done | rfl)) ?_; (with_reducible refine (aC_.calls k _ _ l0 t101 _ ?side1 ?side2 A4.out).mono ?_); (case side1 => exact cz HR0.out); (case side2 => exact HC0.out); rintro e w' ⟨rfl, ⟨nd, rfl⟩⟩; refine ⟨_, rfl, ?_⟩))
 (try simp only [Act.put, lsa_, ls0_, ls1_])
 have H := HC5.out
 clear HC5
 by_cases c6 : t101 = true
 rotate_left
 ·replace c6 := Bool.eq_false_iff.mpr c6
  subst c6
  have H1 : (some (([] : List (S32)), 1)) = some (r1, r2) := by rw [if_neg (show ¬ (false = true) by decide)] at H; exact H
  clear H
  have H := H1
  clear H1
  simp only [Option.some.injEq, Prod.mk.injEq] at H
  obtain ⟨rfl, rfl⟩ := H
  go_wp2
  go_ret2
  exact ⟨_, by first | rfl | (simp [*, ay_, az_] <;> rfl), by first | exact Kd.R_nil _ _ _ _ _ | exact Kd.N_nil _ _ _ _ _ | exact Kd.V_nil _ _ _ _ _ | exact Kd.Q_nil _ _ _ _ _ | exact Kd.S_nil _ _ _ _ _, bz HB.out⟩
 subst c6
 have H1 : ((bk_.f k l0 a1 a2).bind fun t102 => (if t102 < 0 then (some (([] : List (S32)), 3)) else ((some (([] : List (S32)) : List (S32))).bind fun y103 => (if 0 ≤ t102 then (if t102 ≤ (l0.length : Int) then ((some (l0.take (t102 : Int).toNat : List (S32))).bind fun y106 => (if y103.length + y106.length < 2932031007402 then ((some (y103 ++ y106 : List (S32))).bind fun y110 => (if 0 ≤ (wrap64 (t102 + 1)) then (if (wrap64 (t102 + 1)) ≤ (l0.length : Int) then ((some (l0.drop ((wrap64 (t102 + 1)) : Int).toNat : List (S32))).bind fun y113 => (if y110.length + y113.length < 2932031007402 then (some ((y110 ++ y113), 0)) else (none))) else (none)) else (none))) else (none))) else (none)) else (none))))) = some (r1, r2) := by rw [if_pos rfl] at H; exact H
 clear H
 have H := H1
 clear H1
 replace H := Option.bind_eq_some_iff.mp H
 obtain ⟨t102, A70, H⟩ := H
 (try dsimp only at H)
 have A7 := Aside0.mk A70
 clear A70
 have HC8 := Aside0.mk H
 clear H
 go_upto_if 18 with (first | ((with_reducible refine al_ (f := 48) rfl ?_); refine ba_ (some 16) rfl rfl Try.func48 (by kernel_rfl) rfl #[.slice A0 l0.length c0, .string a1, .string a2] rfl (by first | rfl | (simp only [lma_, lmc_, lmn_]; first | done | rfl)) ?_; (with_reducible refine (bk_.calls k _ _ l0 a1 a2 t102 _ ?side1 ?side2 A7.out).mono ?_); (case side1 => exact cz (Kd.bJ_ HR0.out HB.out)); (case side2 => exact HC0.out); rintro e w' ⟨rfl, ⟨nd, rfl⟩⟩; refine ⟨_, rfl, ?_⟩))
 (try simp only [Act.put, lsa_, ls0_, ls1_])
 have H := HC8.out
 clear HC8
 by_cases c9 : t102 < 0
 rotate_left
 ·rw [if_neg c9] at H
  have c9b0 : decide (t102 < 0) = false := decide_eq_false c9
  clear c9
  (first | rw [c9b0] | (simp only [i64_w, i32_w]; rw [c9b0]) | (simp only [c9b1, Bool.not_true, Bool.not_false]) | (simp only [c9b0, Bool.not_true, Bool.not_false]) | skip)
  obtain ⟨y103, hy103⟩ : ∃ y_ : List (S32), y_ = (([] : List (S32))) := ⟨_, rfl⟩
  replace H : (if 0 ≤ t102 then (if t102 ≤ (l0.length : Int) then ((some (l0.take (t102 : Int).toNat : List (S32))).bind fun y106 => (if y103.length + y106.length < 2932031007402 then ((some (y103 ++ y106 : List (S32))).bind fun y110 => (if 0 ≤ (wrap64 (t102 + 1)) then (if (wrap64 (t102 + 1)) ≤ (l0.length : Int) then ((some (l0.drop ((wrap64 (t102 + 1)) : Int).toNat : List (S32))).bind fun y113 => (if y110.length + y113.length < 2932031007402 then (some ((y110 ++ y113), 0)) else (none))) else (none)) else (none))) else (none))) else (none)) else (none)) = some (r1, r2) := by first | (rw [hy103]; with_reducible exact H) | (have H2_ := (Option.bind_some _ _).symm.trans H; rw [hy103]; with_reducible exact H2_) | (have H2_ := (Option.bind_some _ _).symm.trans H; with_reducible exact H2_) | with_reducible exact H | (rw [hy103]; exact H) | exact H
  have Ny103 := Aside0.mk hy103
  clear hy103
  by_cases c10 : 0 ≤ t102
  rotate_left
  ·rw [if_neg c10] at H
   exact absurd H (by simp)
  rw [if_pos c10] at H
  have c10b0 := eq_true c10
  have c10b1 : decide (0 ≤ t102) = true := decide_eq_true c10
  clear c10
  by_cases c11 : t102 ≤ (l0.length : Int)
  rotate_left
  ·rw [if_neg c11] at H
   exact absurd H (by simp)
  rw [if_pos c11] at H
  have c11b0 := eq_true c11
  have c11b1 : decide (t102 ≤ (l0.length : Int)) = true := decide_eq_true c11
  clear c11
  obtain ⟨y106, hy106⟩ : ∃ y_ : List (S32), y_ = (l0.take (t102 : Int).toNat) := ⟨_, rfl⟩
  replace H : (if y103.length + y106.length < 2932031007402 then ((some (y103 ++ y106 : List (S32))).bind fun y110 => (if 0 ≤ (wrap64 (t102 + 1)) then (if (wrap64 (t102 + 1)) ≤ (l0.length : Int) then ((some (l0.drop ((wrap64 (t102 + 1)) : Int).toNat : List (S32))).bind fun y113 => (if y110.length + y113.length < 2932031007402 then (some ((y110 ++ y113), 0)) else (none))) else (none)) else (none))) else (none)) = some (r1, r2) := by first | (rw [hy106]; with_reducible exact H) | (have H2_ := (Option.bind_some _ _).symm.trans H; rw [hy106]; with_reducible exact H2_) | (have H2_ := (Option.bind_some _ _).symm.trans H; with_reducible exact H2_) | with_reducible exact H | (rw [hy106]; exact H) | exact H
  have Ny106 := Aside0.mk hy106
  clear hy106
  by_cases c12 : y103.length + y106.length < 2932031007402
  rotate_left
  ·rw [if_neg c12] at H
   exact absurd H (by simp)
  rw [if_pos c12] at H
  have LMc12 := Aside0.mk c12
  clear c12
  obtain ⟨y110, hy110⟩ : ∃ y_ : List (S32), y_ = (y103 ++ y106) := ⟨_, rfl⟩
  replace H : (if 0 ≤ (wrap64 (t102 + 1)) then (if (wrap64 (t102 + 1)) ≤ (l0.length : Int) then ((some (l0.drop ((wrap64 (t102 + 1)) : Int).toNat : List (S32))).bind fun y113 => (if y110.length + y113.length < 2932031007402 then (some ((y110 ++ y113), 0)) else (none))) else (none)) else (none)) = some (r1, r2) := by first | (rw [hy110]; with_reducible exact H) | (have H2_ := (Option.bind_some _ _).symm.trans H; rw [hy110]; with_reducible exact H2_) | (have H2_ := (Option.bind_some _ _).symm.trans H; with_reducible exact H2_) | with_reducible exact H | (rw [hy110]; exact H) | exact H
  have Ny110 := Aside0.mk hy110
  clear hy110
  obtain ⟨ji13, hji13⟩ : ∃ j_ : Int, (wrap64 (t102 + 1)) = j_ := ⟨_, rfl⟩
  replace H : (if 0 ≤ (ji13) then (if (ji13) ≤ (l0.length : Int) then ((some (l0.drop ((ji13) : Int).toNat : List (S32))).bind fun y113 => (if y110.length + y113.length < 2932031007402 then (some ((y110 ++ y113), 0)) else (none))) else (none)) else (none)) = some (r1, r2) := by first | (rw [hji13] at H; exact H) | (simp only [hji13] at H ⊢; exact H)
  have hji13w : (IntKind.i64.wrap (t102 + 1)) = ji13 := (i64_w _).trans hji13
  by_cases c14 : 0 ≤ (ji13)
  rotate_left
  ·rw [if_neg c14] at H
   exact absurd H (by simp)
  rw [if_pos c14] at H
  have c14b0 := eq_true c14
  have c14b1 : decide (0 ≤ (ji13)) = true := decide_eq_true c14
  clear c14
  by_cases c15 : (ji13) ≤ (l0.length : Int)
  rotate_left
  ·rw [if_neg c15] at H
   exact absurd H (by simp)
  rw [if_pos c15] at H
  have c15b0 := eq_true c15
  have c15b1 : decide ((ji13) ≤ (l0.length : Int)) = true := decide_eq_true c15
  clear c15
  obtain ⟨y113, hy113⟩ : ∃ y_ : List (S32), y_ = (l0.drop ((ji13) : Int).toNat) := ⟨_, rfl⟩
  replace H : (if y110.length + y113.length < 2932031007402 then (some ((y110 ++ y113), 0)) else (none)) = some (r1, r2) := by first | (rw [hy113]; with_reducible exact H) | (have H2_ := (Option.bind_some _ _).symm.trans H; rw [hy113]; with_reducible exact H2_) | (have H2_ := (Option.bind_some _ _).symm.trans H; with_reducible exact H2_) | with_reducible exact H | (rw [hy113]; exact H) | exact H
  have Ny113 := Aside0.mk hy113
  clear hy113
  by_cases c16 : y110.length + y113.length < 2932031007402
  rotate_left
  ·rw [if_neg c16] at H
   exact absurd H (by simp)
  rw [if_pos c16] at H
  have LMc16 := Aside0.mk c16
  clear c16
  obtain ⟨y117, hy117⟩ : ∃ y_ : List (S32), y_ = (y110 ++ y113) := ⟨_, rfl⟩
  replace H : (some (y117, 0)) = some (r1, r2) := by first | (rw [hy117]; with_reducible exact H) | (have H2_ := (Option.bind_some _ _).symm.trans H; rw [hy117]; with_reducible exact H2_) | (have H2_ := (Option.bind_some _ _).symm.trans H; with_reducible exact H2_) | with_reducible exact H | (rw [hy117]; exact H) | exact H
  have Ny117 := Aside0.mk hy117
  clear hy117
  simp only [Option.some.injEq, Prod.mk.injEq] at H
  obtain ⟨rfl, rfl⟩ := H
  go_wp2_with (first | ((with_reducible refine aO_ (N := 19) rfl ?_); refine Kd.R_lit k32 _ 32 ?hg (N := 19) ?hd (xs := ([] : List (S32))) (inner := []) (ok := fun _ => True) (okp := fun _ => True) ?hr ?hp (fun _ hk => hk) trivial (Below.refl _ _) (Nat.le_refl _) (by simp) ?_; (case hd => rfl); (case hg => rfl); (case hr => (go_simp; try rfl)); (case hp => exact (Reps.none _ _)); intro v104 w17 ho18 hb hg_ hnew_; clear hg_ hnew_; (first | rw [← Ny103.out] at ho18 | (simp only [Int.reduceToNat] at ho18; rw [← Ny103.out] at ho18)); have HO105 := Aside0.mk (Kd.bp_ ho18 (am_ (bz HB.out))); replace HB := Aside0.mk (ah_ (bz HB.out) hb); clear hb ho18; have q19 : (t102 : Int) ≤ ((l0.length : Int) : Int) := of_decide_eq_true (by assumption); obtain ⟨i019, hi019, _, hsz19, _⟩ := info_parts cf_; have hroom19 : l0.length ≤ c0 := HC0.out; have hC19 : Kd.C k32 _ A0 l0.length l0 := HR0.out; have hcut19 := cut_to (P := Try.prog) 25 32 .i64 Try.underlying25 hi019 A0 l0.length c0 t102 (of_decide_eq_true (by assumption)) q19 hroom19; have hr19 := Kd.C_take (m := (t102 : Int).toNat) hC19 (by omega); have hy19 : y106.length = (t102 : Int).toNat := (by rw [Ny106.out, List.length_take]; omega); rw [← Ny106.out] at hr19; rw [← hy19] at hcut19; have HR109 := Aside0.mk hr19; have HC109 := Aside0.mk (show y106.length ≤ c0 from by omega); clear hr19 hC19 hroom19 hi019 hsz19; have KY19 := Aside0.mk hy19; clear hy19; replace q19 := eq_true q19) | ((with_reducible refine aP_ (b := .append) (xs := #[.tmp 19, .tmp 22]) rfl ?_); at_builtin; refine Kd.cI_ k32 (w0 := w) w.heap.size rfl (.tmp 19) (.tmp 22) 25 32 (.agg #[(.string ⟨#[]⟩), (.string ⟨#[]⟩), (.string ⟨#[]⟩)]) 48 rfl Try.underlying25 cf_ rfl (by decide) (by omega) v104 y103 y106 _ _ _ (fun _ => True) (fun _ => False) rfl rfl ?aO ?aR (fun _ _ h => h) (fun _ h => h.elim) ?aF ?aB ?aS ?aL ?_; (case aR => exact cz (Kd.bJ_ HR109.out HB.out)); (case aB => exact (bz HB.out)); (case aF => exact (fun _ _ => trivial)); (case aO => exact (rz HO105.out)); (case aS => exact (am_ (bz HB.out))); (case aL => have := LMc12.out; omega); intro v111 w20 ho hb hg hat; rw [← Ny110.out] at ho; replace HB := Aside0.mk (hb); have HO112 := Aside0.mk (ho); clear HO105; clear ho hb hg hat; have q21 : ((ji13) : Int) ≤ ((l0.length : Int) : Int) := of_decide_eq_true (by assumption); obtain ⟨i021, hi021, _, hsz21, _⟩ := info_parts cf_; have hroom21 : l0.length ≤ c0 := HC0.out; have hC21 : Kd.C k32 _ A0 l0.length l0 := HR0.out; have q021 : (0 : Int) ≤ ((ji13) : Int) := of_decide_eq_true (by assumption); have hcut21 := cut_from (P := Try.prog) 25 32 .i64 Try.underlying25 hi021 3 hsz21 A0 l0.length c0 (ji13) q021 q21; have hr21 := Kd.C_drop (m := ((ji13) : Int).toNat) (c := c0) hC21 (by omega) hroom21; obtain ⟨A21, hA21⟩ : ∃ A1, A1 = (if c0 = ((ji13) : Int).toNat then A0 else (A0 : Option Addr).map (·.add (((ji13) : Int).toNat * 3))) := ⟨_, rfl⟩; obtain ⟨c21, hc21⟩ : ∃ c1, c1 = c0 - ((ji13) : Int).toNat := ⟨_, rfl⟩; have hy21 : y113.length = l0.length - ((ji13) : Int).toNat := (by rw [Ny113.out, List.length_drop] <;> omega); rw [show (l0).drop ((ji13) : Int).toNat = y113 from Ny113.out.symm] at hr21; replace hr21 : Kd.C k32 _ A21 y113.length y113 := (by rw [hA21]; exact hr21); rw [← hy21, ← hA21, ← hc21] at hcut21; have HR116 := Aside0.mk hr21; have HC116 := Aside0.mk (show y113.length ≤ c21 from by rw [hy21, hc21]; exact Nat.sub_le_sub_right hroom21 _); clear hr21 hC21 hroom21 hi021 hsz21 hc21; have KY21 := Aside0.mk hy21; have KA21 := Aside0.mk hA21; clear hy21 hA21; replace q21 := eq_true q21) | ((with_reducible refine aP_ (b := .append) (xs := #[.tmp 24, .tmp 28]) rfl ?_); at_builtin; refine Kd.cI_ k32 (w0 := w) w.heap.size rfl (.tmp 24) (.tmp 28) 25 32 (.agg #[(.string ⟨#[]⟩), (.string ⟨#[]⟩), (.string ⟨#[]⟩)]) 48 rfl Try.underlying25 cf_ rfl (by decide) (by omega) v111 y110 y113 _ _ _ (fun _ => True) (fun _ => False) rfl rfl ?aO ?aR (fun _ _ h => h) (fun _ h => h.elim) ?aF ?aB ?aS ?aL ?_; (case aR => exact cz (Kd.bJ_ HR116.out HB.out)); (case aB => exact (bz HB.out)); (case aF => exact (fun _ _ => trivial)); (case aO => exact (rz HO112.out)); (case aS => exact (am_ (bz HB.out))); (case aL => have := LMc16.out; omega); intro v118 w22 ho hb hg hat; rw [← Ny117.out] at ho; replace HB := Aside0.mk (hb); have HO119 := Aside0.mk (ho); clear HO112; clear ho hb hg hat))
  go_ret2
  exact ⟨_, by first | rfl | (simp [ay_, az_] <;> rfl) | (simp only [← hji13]; first | rfl | (simp [ay_, az_] <;> rfl)) | (simp [*, ay_, az_] <;> rfl), rz HO119.out, bz HB.out⟩
 rw [if_pos c9] at H
 have c9b0 : decide (t102 < 0) = true := decide_eq_true c9
 clear c9
 (first | rw [c9b0] | (simp only [i64_w, i32_w]; rw [c9b0]) | (simp only [c9b1, Bool.not_true, Bool.not_false]) | (simp only [c9b0, Bool.not_true, Bool.not_false]) | skip)
 simp only [Option.some.injEq, Prod.mk.injEq] at H
 obtain ⟨rfl, rfl⟩ := H
 go_wp2
 go_ret2
 exact ⟨_, by first | rfl | (simp [*, ay_, az_] <;> rfl), by first | exact Kd.R_nil _ _ _ _ _ | exact Kd.N_nil _ _ _ _ _ | exact Kd.V_nil _ _ _ _ _ | exact Kd.Q_nil _ _ _ _ _ | exact Kd.S_nil _ _ _ _ _, bz HB.out⟩
mutual
def as_.j0 : Nat → List (S32) → List (S32) → Bool → Option ((List (S32)) × Int)
 | 0, _, _, _ => none
 | k + 1, x0, x1, x15 => if x15 = true then (some (([] : List (S32)), 1)) else ((some (([] : List (S32)) : List (S32))).bind fun y103 => (if y103.length + x0.length < 2932031007402 then (as_.l0 k x1 (y103 ++ x0) 0) else (none)))
def as_.l0 : Nat → List (S32) → List (S32) → Int → Option ((List (S32)) × Int)
 | 0, _, _, _ => none
 | k + 1, x1, x6, x7 => if x7 < (x1.length : Int) then (if 0 ≤ x7 then ((aB_.f k x6 ((aa_ x1 x7).f0) ((aa_ x1 x7).f1) ((aa_ x1 x7).f2)).bind fun t110 => (as_.l0 k x1 t110 (wrap64 (x7 + 1)))) else (none)) else (if (x6.length : Int) > 32 then (some (([] : List (S32)), 5)) else (some (x6, 0)))
end
def as_.f (k : Nat) (l0 : List (S32)) (l1 : List (S32)) : Option ((List (S32)) × Int) := (aC_.f k l0).bind fun t101 => (if t101 = true then ((aC_.f k l1).bind fun t102 => (as_.j0 k l0 l1 (!t102))) else (as_.j0 k l0 l1 true))
set_option maxHeartbeats 8000000 in
set_option maxRecDepth 100000 in
theorem as_.calls (k : Nat) (A0 : Option Addr) (c0 : Nat) (l0 : List (S32)) (A1 : Option Addr) (c1 : Nat) (l1 : List (S32)) (r1 : List (S32)) (r2 : Int) (w : World) (hr0 : Kd.C k32 w A0 l0.length l0) (hc0 : l0.length ≤ c0) (hr1 : Kd.C k32 w A1 l1.length l1) (hc1 : l1.length ≤ c1) (h : as_.f k l0 l1 = some (r1, r2)) :
  Calls Try.prog 36 #[.slice A0 l0.length c0, .slice A1 l1.length c1] w fun e w' => ∃ v0_ : Value, e = .returned (.tuple #[v0_, .int .i64 r2]) ∧ Kd.R k32 32 w' w.heap.size (fun _ => True) v0_ r1 ∧ Below w.heap.size w w' := by
 have hu32 := Try.underlying32
 have HR0 := Aside0.mk hr0
 have HC0 := Aside0.mk hc0
 clear hr0 hc0
 have HR1 := Aside0.mk hr1
 have HC1 := Aside0.mk hc1
 clear hr1 hc1
 have HB := Aside0.mk (Below.refl w.heap.size w)
 have H : ((aC_.f k l0).bind fun t101 => (if t101 = true then ((aC_.f k l1).bind fun t102 => (as_.j0 k l0 l1 (!t102))) else (as_.j0 k l0 l1 true))) = some (r1, r2) := h
 clear h
 have HC3 := Aside0.mk H
 clear H
 go_enter Try.func36, Try.ntmps36
 go_upto_region 1 with (fail)
 go_cut [15] (fun v15 wc => ∃ (kq : Nat) (x15_2 : Bool), v15 = .bool x15_2 ∧ Aside0 (as_.j0 kq l0 l1 x15_2 = some (r1, r2)) ∧ Aside0 (kq ≤ k) ∧ Aside0 (Below w.heap.size w wc))
 case first =>
  have H := HC3.out
  clear HC3
  replace H := Option.bind_eq_some_iff.mp H
  obtain ⟨t101, A40, H⟩ := H
  (try dsimp only at H)
  have A4 := Aside0.mk A40
  clear A40
  by_cases c5 : t101 = true
  rotate_left
  ·replace c5 := Bool.eq_false_iff.mpr c5
   subst c5
   have H1 : (as_.j0 k l0 l1 true) = some (r1, r2) := by rw [if_neg (show ¬ (false = true) by decide)] at H; exact H
   clear H
   have H := H1
   clear H1
   have H' := Aside0.mk H
   clear H
   go_wp2_with (first | ((with_reducible refine al_ (f := 46) rfl ?_); refine ba_ (some 9) rfl rfl Try.func46 (by kernel_rfl) rfl #[.slice A0 l0.length c0] rfl (by first | rfl | (simp only [lma_, lmc_, lmn_]; first | done | rfl)) ?_; (with_reducible refine (aC_.calls k _ _ l0 false _ ?side1 ?side2 A4.out).mono ?_); (case side1 => exact cz (Kd.bJ_ HR0.out HB.out)); (case side2 => exact HC0.out); rintro e w' ⟨rfl, ⟨nd, rfl⟩⟩; refine ⟨_, rfl, ?_⟩))
   go_meet
   case rel => exact ⟨_, (true), (by first | rfl | (simp; done) | (simp [*]; done)), H', ⟨by first | omega | exact Nat.le_refl _⟩, ⟨bz HB.out⟩⟩
  subst c5
  have H1 : ((aC_.f k l1).bind fun t102 => (as_.j0 k l0 l1 (!t102))) = some (r1, r2) := by rw [if_pos rfl] at H; exact H
  clear H
  have H := H1
  clear H1
  replace H := Option.bind_eq_some_iff.mp H
  obtain ⟨t102, A60, H⟩ := H
  (try dsimp only at H)
  have A6 := Aside0.mk A60
  clear A60
  have H' := Aside0.mk H
  clear H
  go_wp2_with (first | ((with_reducible refine al_ (f := 46) rfl ?_); refine ba_ (some 9) rfl rfl Try.func46 (by kernel_rfl) rfl #[.slice A0 l0.length c0] rfl (by first | rfl | (simp only [lma_, lmc_, lmn_]; first | done | rfl)) ?_; (with_reducible refine (aC_.calls k _ _ l0 true _ ?side1 ?side2 A4.out).mono ?_); (case side1 => exact cz (Kd.bJ_ HR0.out HB.out)); (case side2 => exact HC0.out); rintro e w' ⟨rfl, ⟨nd, rfl⟩⟩; refine ⟨_, rfl, ?_⟩) | (go_at_call 46; (with_reducible refine (aC_.calls k _ _ l1 t102 _ ?side1 ?side2 A6.out).mono ?_); (case side1 => exact cz (Kd.bJ_ HR1.out HB.out)); (case side2 => exact HC1.out); rintro e w' ⟨rfl, ⟨nd, rfl⟩⟩))
  go_meet
  case rel => exact ⟨_, (!t102), (by first | rfl | (simp; done) | (simp [*]; done)), H', ⟨by first | omega | exact Nat.le_refl _⟩, ⟨bz HB.out⟩⟩
 case rest =>
  clear HC3
  obtain ⟨kq, x15_2, rfl, HA, HJ2, HB⟩ := hcut
  cases kq with
  | zero => exact absurd HA.out (by simp [as_.j0])
  | succ kj2 =>
   have H := HA.out
   clear HA
   simp only [as_.j0] at H
   by_cases c7 : x15_2 = true
   rotate_left
   ·replace c7 := Bool.eq_false_iff.mpr c7
    subst c7
    have H1 : ((some (([] : List (S32)) : List (S32))).bind fun y103 => (if y103.length + l0.length < 2932031007402 then (as_.l0 kj2 l1 (y103 ++ l0) 0) else (none))) = some (r1, r2) := by rw [if_neg (show ¬ (false = true) by decide)] at H; exact H
    clear H
    have H := H1
    clear H1
    obtain ⟨y103, hy103⟩ : ∃ y_ : List (S32), y_ = (([] : List (S32))) := ⟨_, rfl⟩
    replace H : (if y103.length + l0.length < 2932031007402 then (as_.l0 kj2 l1 (y103 ++ l0) 0) else (none)) = some (r1, r2) := by first | (rw [hy103]; with_reducible exact H) | (have H2_ := (Option.bind_some _ _).symm.trans H; rw [hy103]; with_reducible exact H2_) | (have H2_ := (Option.bind_some _ _).symm.trans H; with_reducible exact H2_) | with_reducible exact H | (rw [hy103]; exact H) | exact H
    have Ny103 := Aside0.mk hy103
    clear hy103
    by_cases c8 : y103.length + l0.length < 2932031007402
    rotate_left
    ·rw [if_neg c8] at H
     exact absurd H (by simp)
    rw [if_pos c8] at H
    have LMc8 := Aside0.mk c8
    clear c8
    obtain ⟨y106, hy106⟩ : ∃ y_ : List (S32), y_ = (y103 ++ l0) := ⟨_, rfl⟩
    replace H : (as_.l0 kj2 l1 y106 0) = some (r1, r2) := by first | (rw [hy106]; with_reducible exact H) | (have H2_ := (Option.bind_some _ _).symm.trans H; rw [hy106]; with_reducible exact H2_) | (have H2_ := (Option.bind_some _ _).symm.trans H; with_reducible exact H2_) | with_reducible exact H | (rw [hy106]; exact H) | exact H
    have Ny106 := Aside0.mk hy106
    clear hy106
    have H' := Aside0.mk H
    clear H
    go_wp2_with (first | ((with_reducible refine aO_ (N := 16) rfl ?_); refine Kd.R_lit k32 _ 32 ?hg (N := 16) ?hd (xs := ([] : List (S32))) (inner := []) (ok := fun _ => True) (okp := fun _ => True) ?hr ?hp (fun _ hk => hk) trivial (Below.refl _ _) (Nat.le_refl _) (by simp) ?_; (case hd => rfl); (case hg => rfl); (case hr => (go_simp; try rfl)); (case hp => exact (Reps.none _ _)); intro v104 w9 ho10 hb hg_ hnew_; clear hg_ hnew_; (first | rw [← Ny103.out] at ho10 | (simp only [Int.reduceToNat] at ho10; rw [← Ny103.out] at ho10)); have HO105 := Aside0.mk (Kd.bp_ ho10 (am_ (bz HB.out))); replace HB := Aside0.mk (ah_ (bz HB.out) hb); clear hb ho10) | ((with_reducible refine aP_ (b := .append) (xs := #[.tmp 16, .tmp 17]) rfl ?_); at_builtin; refine Kd.cI_ k32 (w0 := w) w.heap.size rfl (.tmp 16) (.tmp 17) 25 32 (.agg #[(.string ⟨#[]⟩), (.string ⟨#[]⟩), (.string ⟨#[]⟩)]) 48 rfl Try.underlying25 cf_ rfl (by decide) (by omega) v104 y103 l0 _ _ _ (fun _ => True) (fun _ => False) rfl rfl ?aO ?aR (fun _ _ h => h) (fun _ h => h.elim) ?aF ?aB ?aS ?aL ?_; (case aR => exact cz (Kd.bJ_ HR0.out HB.out)); (case aB => exact (bz HB.out)); (case aF => exact (fun _ _ => trivial)); (case aO => exact (rz HO105.out)); (case aS => exact (am_ (bz HB.out))); (case aL => have := LMc8.out; omega); intro v107 w11 ho hb hg hat; rw [← Ny106.out] at ho; replace HB := Aside0.mk (hb); have HO108 := Aside0.mk (ho); clear HO105; clear ho hb hg hat))
    (try simp only [Act.put, lsa_, ls0_, ls1_])
    go_loopg [6, 7] kj2 (fun kq v6 v7 w' => ∃ (x6_2 : List (S32)) (x7_2 : Int), v7 = .int .i64 x7_2 ∧ Aside0 (as_.l0 kq l1 x6_2 x7_2 = some (r1, r2)) ∧ Aside0 (kq ≤ kj2) ∧ Aside0 (Kd.R k32 32 w' w.heap.size (fun _ => True) v6 x6_2) ∧ Aside0 (Below w.heap.size w w'))
    case atStart => exact ⟨(y106), (0), (by first | rfl | (simp; done) | (simp [*]; done)), H', ⟨Nat.le_refl _⟩, ⟨rz HO108.out⟩, ⟨bz HB.out⟩⟩
    case round =>
     clear H'
     obtain ⟨x6_2, x7_2, rfl, HA, HK2, HO_6, HB⟩ := hrel
     cases gk with
     | zero => exact absurd HA.out (by simp [as_.l0])
     | succ k2 =>
      have H := HA.out
      clear HA
      simp only [as_.l0] at H
      by_cases c12 : x7_2 < (l1.length : Int)
      rotate_left
      ·rw [if_neg c12] at H
       have c12b0 : decide (x7_2 < (l1.length : Int)) = false := decide_eq_false c12
       clear c12
       by_cases c17 : (x6_2.length : Int) > 32
       rotate_left
       ·rw [if_neg c17] at H
        have c17b0 : decide (32 < (x6_2.length : Int)) = false := decide_eq_false c17
        have c17b1 : decide (32 < x6_2.length) = false := decide_eq_false (by omega)
        clear c17
        simp only [Option.some.injEq, Prod.mk.injEq] at H
        obtain ⟨rfl, rfl⟩ := H
        obtain ⟨Ao19, co19, eo19⟩ := Kd.bo_ HO_6.out
        subst eo19
        go_wp2
        go_ret2
        exact ⟨_, by first | rfl | (simp [*, ay_, az_] <;> rfl), rz HO_6.out, bz HB.out⟩
       rw [if_pos c17] at H
       have c17b0 : decide (32 < (x6_2.length : Int)) = true := decide_eq_true c17
       have c17b1 : decide (32 < x6_2.length) = true := decide_eq_true (by omega)
       clear c17
       simp only [Option.some.injEq, Prod.mk.injEq] at H
       obtain ⟨rfl, rfl⟩ := H
       obtain ⟨Ao18, co18, eo18⟩ := Kd.bo_ HO_6.out
       subst eo18
       go_wp2
       go_ret2
       exact ⟨_, by first | rfl | (simp [*, ay_, az_] <;> rfl), by first | exact Kd.R_nil _ _ _ _ _ | exact Kd.N_nil _ _ _ _ _ | exact Kd.V_nil _ _ _ _ _ | exact Kd.Q_nil _ _ _ _ _ | exact Kd.S_nil _ _ _ _ _, bz HB.out⟩
      rw [if_pos c12] at H
      have c12b0 : decide (x7_2 < (l1.length : Int)) = true := decide_eq_true c12
      clear c12
      by_cases c13 : 0 ≤ x7_2
      rotate_left
      ·rw [if_neg c13] at H
       exact absurd H (by simp)
      rw [if_pos c13] at H
      have c13b0 : decide (0 ≤ x7_2) = true := decide_eq_true c13
      clear c13
      replace H := Option.bind_eq_some_iff.mp H
      obtain ⟨t110, A140, H⟩ := H
      (try dsimp only at H)
      have A14 := Aside0.mk A140
      clear A140
      have H' := Aside0.mk H
      clear H
      have p109 : 0 ≤ (x7_2 : Int) := of_decide_eq_true (by assumption)
      have q109 : x7_2 < (l1.length : Int) := of_decide_eq_true (by assumption)
      obtain ⟨ad109, e109, hx109_0, hx109_1, hx109_2⟩ := bf_ HR1.out x7_2 p109 q109
      cases e109
      replace hx109_0 := bu_ HB.out hx109_0
      replace hx109_1 := bu_ HB.out hx109_1
      replace hx109_2 := bu_ HB.out hx109_2
      replace p109 := eq_true p109
      replace q109 := eq_true q109
      obtain ⟨Ao15, co15, eo15⟩ := Kd.bo_ HO_6.out
      subst eo15
      go_wp2_with (first | ((with_reducible refine al_ (f := 53) rfl ?_); refine ba_ (some 30) rfl rfl Try.func53 (by kernel_rfl) rfl #[.slice Ao15 x6_2.length co15, .agg #[.string ((aa_ l1 x7_2).f0), .string ((aa_ l1 x7_2).f1), .string ((aa_ l1 x7_2).f2)]] rfl (by first | rfl | (simp only [lma_, lmc_, lmn_]; first | done | rfl)) ?_; (with_reducible refine (aB_.calls k2 _ _ x6_2 ((aa_ l1 x7_2).f0) ((aa_ l1 x7_2).f1) ((aa_ l1 x7_2).f2) t110 _ ?side1 ?side2 A14.out).mono ?_); (case side1 => exact cz (Kd.av_ HO_6.out).2.2); (case side2 => exact (Kd.av_ HO_6.out).2.1); rintro e w16 ⟨v111, rfl, ho0, hb⟩; refine ⟨_, rfl, ?_⟩; have HO112 := Aside0.mk (Kd.bp_ (Kd.bq_ ho0 (Kd.R_lt (rz HO_6.out))) (am_ (bz HB.out))); replace HO_6 := Aside0.mk (Kd.aK_ (rz HO_6.out) (Kd.bn_ ho0) hb); replace HB := Aside0.mk (ah_ (bz HB.out) hb); (try clear hb); (try clear ho0)))
      go_roundg k2
      case measure => have := HJ2.out; have := HK2.out; omega
      case rel => exact ⟨(t110), (wrap64 (x7_2 + 1)), (by first | rfl | (simp; done) | (simp [*]; done)), H', ⟨by have := HJ2.out; have := HK2.out; omega⟩, ⟨rz (Kd.aD_ HO112.out (fun _ hk => trivial))⟩, ⟨bz HB.out⟩⟩
   subst c7
   have H1 : (some (([] : List (S32)), 1)) = some (r1, r2) := by rw [if_pos rfl] at H; exact H
   clear H
   have H := H1
   clear H1
   simp only [Option.some.injEq, Prod.mk.injEq] at H
   obtain ⟨rfl, rfl⟩ := H
   go_wp2
   go_ret2
   exact ⟨_, by first | rfl | (simp [*, ay_, az_] <;> rfl), by first | exact Kd.R_nil _ _ _ _ _ | exact Kd.N_nil _ _ _ _ _ | exact Kd.V_nil _ _ _ _ _ | exact Kd.Q_nil _ _ _ _ _ | exact Kd.S_nil _ _ _ _ _, bz HB.out⟩
end Go.Proofs.Ytckboiphlhhckaa.Q
namespace Go.Proofs.Ytckboiphlhhckaa.Q
open Go.RowKit Go.Proofs.YtckboiphlhhckaaW.PrintWords Go.Proofs.YtckboiphlhhckaaW.PrintLast Go.Proofs.YtckboiphlhhckaaW.PrintMore
theorem wr64 {x : Int} (h0 : -9223372036854775808 ≤ x) (h1 : x < 9223372036854775808) : wrap64 x = x := by unfold wrap64; omega
theorem wr64s (i : Nat) (h : (i : Int) < 9223372036854775807) : wrap64 ((i : Int) + 1) = ((i + 1 : Nat) : Int) := by rw [wr64 (by omega) (by omega)]; omega
theorem bm_ {α : Type} {g : Nat → Option α} {r : α} (h : Ev (fun k => g (k + 1)) r) : Ev g r := by
 obtain ⟨K, hK⟩ := h
 refine ⟨K + 1, fun k hk => ?_⟩
 obtain ⟨m, rfl⟩ : ∃ m, k = m + 1 := ⟨k - 1, by omega⟩
 exact hK m (by omega)
theorem Ev_t {α : Type} {c : Prop} [Decidable c] {f g : Nat → Option α} {r : α} (h : c) (k : Ev f r) : Ev (fun n => if c then f n else g n) r := by
 obtain ⟨K, hK⟩ := k
 exact ⟨K, fun n hn => (if_pos h).trans (hK n hn)⟩
theorem Ev_f {α : Type} {c : Prop} [Decidable c] {f g : Nat → Option α} {r : α} (h : ¬ c) (k : Ev g r) : Ev (fun n => if c then f n else g n) r := by
 obtain ⟨K, hK⟩ := k
 exact ⟨K, fun n hn => (if_neg h).trans (hK n hn)⟩
theorem Ev_b {α β : Type} {g : Nat → Option α} {f : Nat → α → Option β} {a : α} {r : β} (h : Ev g a) (k : Ev (fun n => f n a) r) : Ev (fun n => (g n).bind (fun x => f n x)) r := Ev.bind h k
theorem Ev_s {α β : Type} {a : α} {f : Nat → α → Option β} {r : β} (k : Ev (fun n => f n a) r) : Ev (fun n => (some a).bind (fun x => f n x)) r := k
theorem Ev_n {α : Type} {a r : α} (h : a = r) : Ev (fun _ => some a) r := ⟨0, fun _ _ => by rw [h]⟩
theorem Ev_c {α : Type} {o : Option α} {r : α} (h : o = some r) : Ev (fun _ => o) r := ⟨0, fun _ _ => h⟩
theorem Ev_at {α : Type} {g : Nat → Option α} {r r' : α} (h : Ev g r) (e : r = r') : Ev g r' := e ▸ h
theorem Ev_two {α β : Type} {g : Nat → Option α} {f : Nat → Option β} {a : α} {b : β} (h : Ev g a) (k : Ev f b) : ∃ K, ∀ n, K ≤ n → g n = some a ∧ f n = some b := by
 obtain ⟨K, hK⟩ := h
 obtain ⟨L, hL⟩ := k
 exact ⟨max K L, fun n hn => ⟨hK n (by omega), hL n (by omega)⟩⟩
theorem Ev_one {α : Type} {g : Nat → Option α} {a b : α} (h : Ev g a) (k : Ev g b) : a = b := by
 obtain ⟨K, hK⟩ := Ev_two h k
 have := hK K (Nat.le_refl _)
 have h2 := this.1.symm.trans this.2
 exact Option.some.inj h2
theorem getD_in {α : Type} (l : List α) (z : α) (i : Nat) (h : i < l.length) : l.getD ((i : Int).toNat) z = l[i] := by simp [List.getD, h]
structure Ordr {κ : Type} (c : κ → κ → Int) : Prop where
 zero : ∀ a b, c a b = 0 ↔ a = b
 anti : ∀ a b, c a b < 0 ↔ 0 < c b a
 trans : ∀ a b d, c a b < 0 → c b d < 0 → c a d < 0
theorem cb_ord : Ordr Go.Lib.compareBytes := by
 constructor
 ·intro a
  induction a with
  | nil => intro b; cases b <;> simp [Go.Lib.compareBytes]
  | cons x a ih =>
   intro b
   cases b with
   | nil => simp [Go.Lib.compareBytes]
   | cons y b =>
    simp only [Go.Lib.compareBytes]
    by_cases h1 : x < y
    rotate_left
    ·by_cases h2 : y < x
     rotate_left
     ·have : x = y := UInt8.le_antisymm (UInt8.not_lt.1 h2) (UInt8.not_lt.1 h1)
      subst this
      simp [h1, ih]
     have : x ≠ y := fun e => by subst e; exact absurd h2 (UInt8.lt_irrefl _)
     simp [h1, h2, this]
    have : x ≠ y := fun e => by subst e; exact absurd h1 (UInt8.lt_irrefl _)
    simp [h1, this]
 ·intro a
  induction a with
  | nil => intro b; cases b <;> simp [Go.Lib.compareBytes]
  | cons x a ih =>
   intro b
   cases b with
   | nil => simp [Go.Lib.compareBytes]
   | cons y b =>
    simp only [Go.Lib.compareBytes]
    by_cases h1 : x < y
    rotate_left
    ·by_cases h2 : y < x
     rotate_left
     ·simp [h1, h2, ih]
     simp [h1, h2]
    have h2 : ¬ y < x := fun h => absurd (UInt8.lt_trans h1 h) (UInt8.lt_irrefl _)
    simp [h1, h2]
 ·intro a
  induction a with
  | nil => intro b d; cases b <;> cases d <;> simp [Go.Lib.compareBytes]
  | cons x a ih =>
   intro b d
   cases b with
   | nil => simp [Go.Lib.compareBytes]
   | cons y b =>
    cases d with
    | nil => simp [Go.Lib.compareBytes]
    | cons z d =>
     simp only [Go.Lib.compareBytes]
     by_cases h1 : x < y
     rotate_left
     ·by_cases h1' : y < x
      ·simp [h1, h1']
      ·have : x = y := UInt8.le_antisymm (UInt8.not_lt.1 h1') (UInt8.not_lt.1 h1)
       subst this
       by_cases h2 : x < z
       rotate_left
       ·by_cases h3 : z < x
        rotate_left
        ·simpa [h1, h2, h3] using ih b d
        simp [h2, h3]
       simp [h2]
     by_cases h2 : y < z
     rotate_left
     ·by_cases h3 : z < y
      rotate_left
      ·have : y = z := UInt8.le_antisymm (UInt8.not_lt.1 h3) (UInt8.not_lt.1 h2)
       subst this
       simp [h1]
      simp [h1, h2, h3]
     simp [h1, h2, UInt8.lt_trans h1 h2]
def lx (c : List UInt8 → List UInt8 → Int) (a b : List UInt8 × List UInt8) : Int := if c a.1 b.1 = 0 then c a.2 b.2 else c a.1 b.1
theorem lx_ord {c : List UInt8 → List UInt8 → Int} (h : Ordr c) : Ordr (lx c) := by
 constructor
 ·rintro ⟨a, b⟩ ⟨d, e⟩
  unfold lx
  simp only
  by_cases g : c a d = 0
  rotate_left
  ·rw [if_neg g]
   have : a ≠ d := fun e => g ((h.zero a d).2 e)
   simp [g, this]
  rw [if_pos g, h.zero b e]
  have := (h.zero a d).1 g
  subst this
  simp
 ·rintro ⟨a, b⟩ ⟨d, e⟩
  unfold lx
  simp only
  by_cases g : c a d = 0
  rotate_left
  ·have g2 : ¬ c d a = 0 := fun q => g ((h.zero a d).2 ((h.zero d a).1 q).symm)
   rw [if_neg g, if_neg g2]
   exact h.anti a d
  have := (h.zero a d).1 g
  subst this
  rw [if_pos g, if_pos g]
  exact h.anti b e
 ·rintro ⟨a, b⟩ ⟨d, e⟩ ⟨u, v⟩
  unfold lx
  simp only
  by_cases g : c a d = 0
  rotate_left
  ·rw [if_neg g]
   by_cases g2 : c d u = 0
   rotate_left
   ·rw [if_neg g2]
    intro q1 q2
    have q3 := h.trans a d u q1 q2
    rw [if_neg (by omega)]
    exact q3
   have := (h.zero d u).1 g2
   subst this
   rw [if_pos g2, if_neg g]; exact fun q _ => q
  have := (h.zero a d).1 g
  subst this
  rw [if_pos g]
  by_cases g2 : c a u = 0
  rotate_left
  ·rw [if_neg g2, if_neg g2]; exact fun _ q => q
  rw [if_pos g2, if_pos g2]; exact h.trans b e v
theorem Ordr.step {κ : Type} {c : κ → κ → Int} (h : Ordr c) {x y t : κ} (h1 : c x y < 0) (h2 : 0 ≤ c x t) : 0 < c y t := by
 by_cases e : c x t = 0
 rotate_left
 ·have q : c t x < 0 := (h.anti t x).2 (by omega)
  exact (h.anti t y).1 (h.trans t x y q h1)
 have := (h.zero x t).1 e
 subst this
 exact (h.anti _ _).1 h1
def plc {α : Type} (c : α → Int) : List α → Nat
 | [] => 0
 | x :: l => if c x < 0 then plc c l + 1 else 0
def Rsg {α : Type} (c : α → Int) (l : List α) : Prop := ∀ (i j : Nat) (hi : i < j) (hj : j < l.length), 0 ≤ c l[i] → 0 < c l[j]
theorem plc_le {α : Type} (c : α → Int) : ∀ l, plc c l ≤ l.length
 | [] => by simp [plc]
 | x :: l => by have := plc_le c l; unfold plc; split <;> simp <;> omega
theorem plc_lt {α : Type} (c : α → Int) : ∀ l (i : Nat) (hi : i < l.length), i < plc c l → c l[i] < 0
 | [], i, hi, _ => by simp at hi
 | x :: l, i, hi, h => by
  unfold plc at h
  split at h
  ·rename_i hx
   cases i with
   | zero => exact hx
   | succ i => exact plc_lt c l i (by simpa using hi) (by omega)
  ·omega
theorem plc_at {α : Type} (c : α → Int) : ∀ l (h : plc c l < l.length), 0 ≤ c (l[plc c l]'h)
 | [], h => by simp [plc] at h
 | x :: l, h => by
  by_cases hx : c x < 0
  rotate_left
  ·have e : plc c (x :: l) = 0 := by rw [plc, if_neg hx]
   simp only [e, List.getElem_cons_zero]
   omega
  have e : plc c (x :: l) = plc c l + 1 := by rw [plc, if_pos hx]
  have h2 : plc c l < l.length := by rw [e] at h; simpa using h
  have := plc_at c l h2
  simpa only [e, List.getElem_cons_succ] using this
theorem Rsg.gt {α : Type} {c : α → Int} {l : List α} (h : Rsg c l) (i : Nat) (hi : i < l.length) (hp : plc c l < i) : 0 < c l[i] := h (plc c l) i hp hi (plc_at c l (by omega))
theorem plc_of {α : Type} {c : α → Int} {l : List α} (i : Nat) (hi : i ≤ l.length) (h1 : ∀ (j : Nat) (hj : j < l.length), j < i → c l[j] < 0) (h2 : ∀ (h : i < l.length), 0 ≤ c l[i]) : plc c l = i := by
 have hp := plc_le c l
 rcases Nat.lt_trichotomy (plc c l) i with h | h | h
 ·have := plc_at c l (by omega)
  have := h1 (plc c l) (by omega) h
  omega
 ·exact h
 ·have := plc_lt c l i (by omega) h
  have := h2 (by omega)
  omega
def fnd {α : Type} (c : α → Int) (l : List α) : Bool := if h : plc c l < l.length then decide (c (l[plc c l]'h) = 0) else false
theorem fnd_t {α : Type} {c : α → Int} {l : List α} (h : fnd c l = true) : ∃ hp : plc c l < l.length, c (l[plc c l]'hp) = 0 := by
 unfold fnd at h
 split at h
 ·rename_i hp; exact ⟨hp, by simpa using h⟩
 ·cases h
theorem fnd_f {α : Type} {c : α → Int} {l : List α} (hr : Rsg c l) (h : fnd c l = false) (i : Nat) (hi : i < l.length) : c l[i] ≠ 0 := by
 rcases Nat.lt_trichotomy i (plc c l) with g | g | g
 ·have := plc_lt c l i hi g; omega
 ·subst g
  unfold fnd at h
  rw [dif_pos hi] at h
  simpa using h
 ·have := hr.gt i hi g; omega
theorem rsg_of {α κ : Type} {c : κ → κ → Int} (ho : Ordr c) (key : α → κ) {l : List α} (h : ∀ (i : Nat) (hi : i + 1 < l.length), c (key (l[i]'(by omega))) (key l[i + 1]) < 0) (t : κ) : Rsg (fun x => c (key x) t) l := by
 have q : ∀ (d i : Nat) (hj : i + d + 1 < l.length), c (key (l[i]'(by omega))) (key l[i + d + 1]) < 0 := by
  intro d
  induction d with
  | zero => intro i hj; exact h i hj
  | succ d ih =>
   intro i hj
   exact ho.trans _ _ _ (ih i (by omega)) (h (i + d + 1) (by omega))
 intro i j hi hj h0
 have e : i + (j - i - 1) + 1 = j := by omega
 have := q (j - i - 1) i (by omega)
 simp only [e] at this
 exact ho.step this h0
theorem mid_ev (i j : Nat) (h : (i : Int) + j < 1000000000000) : wrap64 ((IntKind.u64.wrap (wrap64 ((i : Int) + j))) / 2) = (((i + j) / 2 : Nat) : Int) := by
 rw [wr64 (x := (i : Int) + j) (by omega) (by omega)]
 have : IntKind.u64.wrap ((i : Int) + j) = (i : Int) + j := by simp [IntKind.wrap, IntKind.bits, IntKind.signed]; omega
 rw [this, wr64 (by omega) (by omega)]
 omega
end Go.Proofs.Ytckboiphlhhckaa.Q
namespace Go.Proofs.Ytckboiphlhhckaa.OPN
open Go Go.RowKit Go.Proofs.YtckboiphlhhckaaW.PrintWords
structure Opn {α : Type} (P : Program) (t : TypeId) (d : Kd α) (wf : α → Prop) : Prop where
 size : P.cellsOf t = d.sz
 get : ∀ {H : Type} {enc : TypeId × Value → H} {w : World} {base : Nat} {spare : Nat → Bool} {held : Bool} {fuel : Nat} {cs : List Value} {x : DataW H × List MemPlace},
  cs.length = d.sz → DataW.trod enc P w base spare held fuel t cs = some x → ∃ a, d.K w a cs ∧ wf a
theorem cr_ {cs : List Value} (h : cs.length = 1) : ∃ v, cs = [v] := by
 match cs, h with
 | [v], _ => exact ⟨v, rfl⟩
structure OpnF {α : Type} (P : Program) (fs : List (TypeId × Nat)) (off : Nat) (d : Kd α) (wf : α → Prop) : Prop where
 get : ∀ {H : Type} {enc : TypeId × Value → H} {w : World} {base : Nat} {spare : Nat → Bool} {held : Bool} {fuel : Nat} {cs : List Value} {xs : List (DataW H × List MemPlace)},
  cs.length = off + d.sz → fs.mapM (fun f => DataW.trod enc P w base spare held fuel f.1 ((cs.drop f.2).take (P.cellsOf f.1))) = some xs → ∃ a, d.K w a (cs.drop off) ∧ wf a
end Go.Proofs.Ytckboiphlhhckaa.OPN
namespace Go.Proofs.Ytckboiphlhhckaa.Q
open Go.RowKit Go.Proofs.YtckboiphlhhckaaW.PrintWords Go.Proofs.YtckboiphlhhckaaW.PrintLast Go.Proofs.YtckboiphlhhckaaW.PrintMore
theorem bL_ (l : List S32) (i : Nat) (h : i < l.length) : aa_ l (i : Int) = l[i] := by unfold aa_; exact getD_in l _ i h
theorem w64 {x : Int} (h0 : -9223372036854775808 ≤ x) (h1 : x < 9223372036854775808) : wrap64 x = x := by unfold wrap64; omega
theorem rd_B (l : List S32) (i : Nat) (h : i < l.length) : aa_ l (i : Int) = l[i] := by unfold aa_; simp [List.getD, h]
theorem toList_len (x : ByteArray) : x.toList.length = x.size := by
 rw [Go.ByteArray.toList_eq x, Array.length_toList]; rfl
theorem name_round (k : Nat) (x : ByteArray) (i : Int) : aI_.l0 k x i = ax_.l0 k x i := by
 induction k generalizing i with
 | zero => rfl
 | succ k ih =>
  simp only [aI_.l0, ax_.l0, ih, bX_.f, cA_.f]
  by_cases h1 : i < (x.size : Int)
  rotate_left
  ·rw [if_neg h1, if_neg h1]
  rw [if_pos h1, if_pos h1]
  by_cases h2 : 0 ≤ i
  rotate_left
  ·rw [if_neg h2, if_neg h2]
  rw [if_pos h2, if_pos h2]
  generalize bt x i = c
  by_cases h3 : c < 97
  rotate_left
  ·rw [if_neg h3, if_pos (show c ≥ 97 by omega)]
   by_cases h4 : c > 122
   rotate_left
   ·rw [if_neg h4]; simp [show c ≤ 122 by omega]
   simp [h4, show ¬ c < 48 by omega, show c > 57 by omega, show ¬ c ≤ 122 by omega, show ¬ c ≤ 57 by omega]
  rw [if_pos h3, if_neg (by omega)]
  by_cases h4 : c < 48
  rotate_left
  ·rw [if_neg h4, if_pos (by omega)]
   by_cases h5 : c > 57
   rotate_left
   ·rw [if_neg h5]; simp [show c ≤ 57 by omega]
   rw [if_pos h5]; simp [show ¬ c ≤ 57 by omega]
  rw [if_pos h4, if_neg (by omega)]; simp
theorem name_same (k : Nat) (x : ByteArray) : aI_.f k x = ax_.f k x := by
 have hj : ∀ b, aI_.j0 k x b = ax_.j0 k x b := by
  intro b
  cases k with
  | zero => rfl
  | succ k => simp only [aI_.j0, ax_.j0, name_round]
 unfold aI_.f ax_.f bX_.f
 simp only [hj]
 by_cases h0 : x.toList = []
 rotate_left
 ·have : x.size ≠ 0 := by
   intro e; apply h0; apply List.eq_nil_of_length_eq_zero; rw [toList_len, e]
  rw [if_neg h0, if_neg (show ¬ (x.size : Int) < 1 by omega)]
  by_cases h1 : (x.size : Int) > 10
  rotate_left
  ·rw [if_neg h1, if_neg h1, if_pos (show 0 < (x.size : Int) by omega), if_pos (show 0 < (x.size : Int) by omega)]
   generalize bt x 0 = c
   by_cases h3 : c < 97
   rotate_left
   ·rw [if_neg h3, if_pos (show c ≥ 97 by omega)]
    simp only [Option.bind_some]
    congr 1
    by_cases h4 : c > 122
    rotate_left
    ·simp [h4, show c ≤ 122 by omega]
    simp [h4, show ¬ c ≤ 122 by omega]
   rw [if_pos h3, if_neg (show ¬ c ≥ 97 by omega)]; rfl
  rw [if_pos h1, if_pos h1]
 have : x.size = 0 := by rw [← toList_len, h0]; rfl
 rw [if_pos h0, if_pos (by omega)]
theorem name_ev (x : ByteArray) : ∃ b, ∀ k, 12 < k → ax_.f k x = some b := by
 have go : ∀ (d : Nat) (i : Int), 0 ≤ i → i + d = x.size → (x.size : Int) ≤ 10 → ∃ b, ∀ k, d < k → ax_.l0 k x i = some b := by
  intro d
  induction d with
  | zero =>
   intro i h0 h1 _
   refine ⟨true, fun k hk => ?_⟩
   obtain ⟨k, rfl⟩ : ∃ m, k = m + 1 := ⟨k - 1, by omega⟩
   simp only [ax_.l0]
   rw [if_neg (by omega)]
  | succ d ih =>
   intro i h0 h1 h2
   obtain ⟨b, hb⟩ := ih (i + 1) (by omega) (by omega) h2
   by_cases h3 : bt x i < 97
   rotate_left
   ·by_cases h4 : bt x i > 122
    rotate_left
    ·refine ⟨b, fun k hk => ?_⟩
     obtain ⟨k, rfl⟩ : ∃ m, k = m + 1 := ⟨k - 1, by omega⟩
     simp only [ax_.l0]
     rw [if_pos (by omega), if_pos h0, if_neg h3, if_neg h4, w64 (by omega) (by omega), hb k (by omega)]
    refine ⟨false, fun k hk => ?_⟩
    obtain ⟨k, rfl⟩ : ∃ m, k = m + 1 := ⟨k - 1, by omega⟩
    simp only [ax_.l0]
    rw [if_pos (by omega), if_pos h0, if_neg h3, if_pos h4, if_neg (by omega), if_pos (by omega)]
   by_cases h4 : bt x i < 48
   rotate_left
   ·by_cases h5 : bt x i > 57
    rotate_left
    ·refine ⟨b, fun k hk => ?_⟩
     obtain ⟨k, rfl⟩ : ∃ m, k = m + 1 := ⟨k - 1, by omega⟩
     simp only [ax_.l0]
     rw [if_pos (by omega), if_pos h0, if_pos h3, if_neg h4, if_neg h5, w64 (by omega) (by omega), hb k (by omega)]
    refine ⟨false, fun k hk => ?_⟩
    obtain ⟨k, rfl⟩ : ∃ m, k = m + 1 := ⟨k - 1, by omega⟩
    simp only [ax_.l0]
    rw [if_pos (by omega), if_pos h0, if_pos h3, if_neg h4, if_pos h5]
   refine ⟨false, fun k hk => ?_⟩
   obtain ⟨k, rfl⟩ : ∃ m, k = m + 1 := ⟨k - 1, by omega⟩
   simp only [ax_.l0]
   rw [if_pos (by omega), if_pos h0, if_pos h3, if_pos h4]
 have hj : ∀ (b : Bool), (b = false → (x.size : Int) ≤ 10) → ∃ c, ∀ k, 12 < k → ax_.j0 k x b = some c := by
  intro b hs
  cases b with
  | true =>
   refine ⟨false, fun k hk => ?_⟩
   obtain ⟨k, rfl⟩ : ∃ m, k = m + 1 := ⟨k - 1, by omega⟩
   simp only [ax_.j0, if_true]
  | false =>
   obtain ⟨c, hc⟩ := go x.size 0 (by omega) (by omega) (hs rfl)
   have := hs rfl
   refine ⟨c, fun k hk => ?_⟩
   obtain ⟨k, rfl⟩ : ∃ m, k = m + 1 := ⟨k - 1, by omega⟩
   simp only [ax_.j0]
   rw [if_neg (by decide), hc k (by omega)]
 unfold ax_.f
 by_cases h1 : (x.size : Int) < 1
 rotate_left
 ·simp only [if_neg h1]
  by_cases h2 : (x.size : Int) > 10
  rotate_left
  ·simp only [if_neg h2, if_pos (show 0 < (x.size : Int) by omega)]
   by_cases h3 : bt x 0 < 97
   rotate_left
   ·simp only [if_neg h3]; exact hj _ (fun _ => by omega)
   simp only [if_pos h3]; exact hj true (by intro h; cases h)
  simp only [if_pos h2]; exact hj true (by intro h; cases h)
 simp only [if_pos h1]; exact hj true (by intro h; cases h)
def noNl : List UInt8 → Bool
 | [] => true
 | x :: l => if x = 10 then false else noNl l
theorem noNl_index : ∀ l : List UInt8, (!decide (0 ≤ Go.Lib.indexByte l 10)) = noNl l
 | [] => by decide
 | x :: l => by
  have ih := noNl_index l
  have hg := Go.Lib.indexByte_ge l 10
  unfold noNl Go.Lib.indexByte
  by_cases h : x = 10
  rotate_left
  ·have hb : (x == 10) = false := by simpa using h
   rw [if_neg (by rw [hb]; decide), if_neg h, ← ih]
   by_cases h2 : Go.Lib.indexByte l 10 = -1
   rotate_left
   ·have hb2 : (Go.Lib.indexByte l 10 == -1) = false := by simpa using h2
    rw [if_neg (by rw [hb2]; decide)]
    simp [show 0 ≤ Go.Lib.indexByte l 10 by omega, show 0 ≤ Go.Lib.indexByte l 10 + 1 by omega]
   simp [h2]
  simp [h]
theorem bt_get (s : ByteArray) (i : Nat) (h : i < s.data.toList.length) : (bt s (i : Int) = 10) = (s.data.toList[i] = 10) := by
 have hs : i < s.size := by rw [Array.length_toList] at h; exact h
 unfold bt
 rw [dif_pos (show (i : Int).toNat < s.size from hs)]
 have e : s[(i : Int).toNat]'hs = s.data.toList[i] := by simp; rfl
 rw [e]
 apply propext
 constructor
 ·intro he; apply UInt8.toNat_inj.1; have : (s.data.toList[i].toNat : Int) = ((10 : UInt8).toNat : Int) := he; exact Int.ofNat_inj.1 this
 ·intro he; rw [he]; rfl
theorem oneB_loop (x : S32) (hx : (x.f2.size : Int) ≤ 1048576) (na nb : Bool) (ha : ∀ k, 12 < k → ax_.f k x.f0 = some na) (hb : ∀ k, 12 < k → ax_.f k x.f1 = some nb) : ∀ (d i : Nat), i + d = x.f2.size → ∀ k, d + 20 < k → aY_.l0 k [x] i = some (noNl (x.f2.data.toList.drop i) && (na && (nb && decide ((x.f2.size : Int) ≤ 400)))) := by
 have hrd : aa_ [x] 0 = x := rfl
 have hsz : x.f2.data.toList.length = x.f2.size := by rw [Array.length_toList]; rfl
 have g0 : (0 < (([x] : List S32).length : Int)) = True := eq_true (by simp)
 intro d
 induction d with
 | zero =>
  intro i h k hk
  obtain ⟨k, rfl⟩ : ∃ m, k = m + 1 := ⟨k - 1, by omega⟩
  have g1 : ((i : Int) < (x.f2.size : Int)) = False := eq_false (by omega)
  simp only [aY_.l0, hrd, g0, g1, if_true, if_false, name_same, ha k (by omega), hb k (by omega), Option.bind_some]
  rw [List.drop_of_length_le (by omega)]
  cases na <;> cases nb <;> simp [noNl]
 | succ d ih =>
  intro i h k hk
  obtain ⟨k, rfl⟩ : ∃ m, k = m + 1 := ⟨k - 1, by omega⟩
  have g1 : ((i : Int) < (x.f2.size : Int)) = True := eq_true (by omega)
  have g2 : (0 ≤ (i : Int)) = True := eq_true (by omega)
  have g4 : wrap64 ((i : Int) + 1) = ((i + 1 : Nat) : Int) := by rw [w64 (by omega) (by omega)]; omega
  have hi : i < x.f2.data.toList.length := by omega
  simp only [aY_.l0, hrd, g0, g1, g2, g4, if_true]
  rw [List.drop_eq_getElem_cons hi]
  unfold noNl
  by_cases hc : x.f2.data.toList[i] = 10
  rotate_left
  ·rw [if_neg (by rw [bt_get x.f2 i hi]; exact hc), if_neg hc, ih (i + 1) (by omega) k (by omega)]
  rw [if_pos ((bt_get x.f2 i hi).symm ▸ hc), if_pos hc]; rfl
theorem validB_ev (x : S32) (hx : (x.f2.size : Int) ≤ 1048576) : ∃ b, ∀ k, 2000000 < k → aY_.f k [x] = some b ∧ bx_.f k x.f0 x.f1 x.f2 = some b := by
 obtain ⟨na, ha⟩ := name_ev x.f0
 obtain ⟨nb, hb⟩ := name_ev x.f1
 refine ⟨noNl x.f2.data.toList && (na && (nb && decide ((x.f2.size : Int) ≤ 400))), fun k hk => ⟨?_, ?_⟩⟩
 ·have := oneB_loop x hx na nb ha hb x.f2.size 0 (by omega) k (by omega)
  unfold aY_.f
  simpa using this
 ·unfold bx_.f strings_Contains.f
  rw [ha k (by omega), hb k (by omega)]
  have hn := noNl_index x.f2.data.toList
  cases na
  ·simp
  ·cases nb
   ·simp
   ·by_cases h4 : (x.f2.size : Int) ≤ 400
    ·simp only [Option.bind_some, if_true, h4]
     rw [hn]; simp
    ·simp [h4]
theorem cmp_lt : ∀ l m : List UInt8, (Go.Lib.compareBytes l m < 0 ↔ Op.bytesLess l m = true) ∧ (Go.Lib.compareBytes l m = 0 ↔ l = m)
 | [], [] => by simp [Go.Lib.compareBytes, Op.bytesLess]
 | [], _ :: _ => by simp [Go.Lib.compareBytes, Op.bytesLess]
 | _ :: _, [] => by simp [Go.Lib.compareBytes, Op.bytesLess]
 | a :: x, b :: y => by
  obtain ⟨h1, h2⟩ := cmp_lt x y
  unfold Go.Lib.compareBytes Op.bytesLess
  by_cases hab : a < b
  rotate_left
  ·by_cases hba : b < a
   rotate_left
   ·have he : a = b := UInt8.le_antisymm (UInt8.not_lt.1 hba) (UInt8.not_lt.1 hab)
    subst he
    simp only [hab, if_false, h1, h2]
    simp
   have hne : a ≠ b := fun e => by subst e; exact absurd hba (UInt8.lt_irrefl _)
   simp [hab, hba, hne]
  have hne : a ≠ b := fun e => by subst e; exact absurd hab (UInt8.lt_irrefl _)
  simp [hab, hne]
theorem before_ev (x y : S32) : ∃ c, bt_.f [x] [y] = some (!decide (c ≥ (0 : Int))) ∧ be_.f x.f0 x.f1 x.f2 y.f0 y.f1 y.f2 = some c := by
 have h1 : aa_ [x] 0 = x := rfl
 have h2 : aa_ [y] 0 = y := rfl
 unfold bt_.f be_.f strings_Compare.f
 simp only [h1, h2, Option.bind_some, Go.ByteArray.toList_eq]
 rw [if_pos (by simp), if_pos (by simp)]
 obtain ⟨a1, a2⟩ := cmp_lt x.f0.data.toList y.f0.data.toList
 obtain ⟨b1, _⟩ := cmp_lt x.f1.data.toList y.f1.data.toList
 by_cases hz : Go.Lib.compareBytes x.f0.data.toList y.f0.data.toList = 0
 rotate_left
 ·refine ⟨Go.Lib.compareBytes x.f0.data.toList y.f0.data.toList, ?_, by rw [if_neg hz]⟩
  by_cases hl : Op.bytesLess x.f0.data.toList y.f0.data.toList = true
  rotate_left
  ·have : ¬ Go.Lib.compareBytes x.f0.data.toList y.f0.data.toList < 0 := fun e => hl (a1.1 e)
   rw [if_neg hl, if_neg (fun e => hz (a2.2 e))]
   simp [show Go.Lib.compareBytes x.f0.data.toList y.f0.data.toList ≥ 0 by omega]
  have := a1.2 hl
  rw [if_pos hl]
  simp [show ¬ Go.Lib.compareBytes x.f0.data.toList y.f0.data.toList ≥ 0 by omega]
 refine ⟨Go.Lib.compareBytes x.f1.data.toList y.f1.data.toList, ?_, by rw [if_pos hz]⟩
 have hn : ¬ Op.bytesLess x.f0.data.toList y.f0.data.toList = true := fun e => by have := a1.2 e; omega
 rw [if_neg hn, if_pos (a2.1 hz)]
 congr 1
 cases hb : Op.bytesLess x.f1.data.toList y.f1.data.toList with
 | true => have := b1.2 hb; simp [show ¬ Go.Lib.compareBytes x.f1.data.toList y.f1.data.toList ≥ 0 by omega]
 | false =>
  have : ¬ Go.Lib.compareBytes x.f1.data.toList y.f1.data.toList < 0 := fun e => by rw [b1.1 e] at hb; cases hb
  simp [show Go.Lib.compareBytes x.f1.data.toList y.f1.data.toList ≥ 0 by omega]
theorem validBS_ev (m : List S32) (hl : (m.length : Int) ≤ 1048576) (hw : ∀ y ∈ m, (y.f2.size : Int) ≤ 1048576) : ∃ b, ∀ k, 4000000 < k → aC_.f k m = some b ∧ aj_.f k m = some b := by
 have go : ∀ (d i : Nat), i + d = m.length → ∃ b, ∀ k, d + 2000001 < k → aC_.l0 k m i = some b ∧ aj_.l0 k m m (m.length : Int) i = some b := by
  intro d
  induction d with
  | zero =>
   intro i h1
   have g1 : ((i : Int) < (m.length : Int)) = False := eq_false (by omega)
   refine ⟨decide ((m.length : Int) ≤ 32), fun k hk => ?_⟩
   obtain ⟨k, rfl⟩ : ∃ m, k = m + 1 := ⟨k - 1, by omega⟩
   simp only [aC_.l0, aj_.l0, g1, if_false]
   exact ⟨trivial, trivial⟩
  | succ d ih =>
   intro i h1
   obtain ⟨b, hv⟩ := validB_ev m[i] (hw _ (List.getElem_mem _))
   have e1 : ∀ k, 2000000 < k → aY_.f k [m[i]] = some b := fun k h => (hv k h).1
   have e2 : ∀ k, 2000000 < k → bx_.f k m[i].f0 m[i].f1 m[i].f2 = some b := fun k h => (hv k h).2
   obtain ⟨c, hk0⟩ := ih (i + 1) (by omega)
   have g1 : ((i : Int) < (m.length : Int)) = True := eq_true (by omega)
   have g2 : (0 ≤ (i : Int)) = True := eq_true (by omega)
   have g3 := rd_B m i (by omega)
   have g4 : wrap64 ((i : Int) + 1) = ((i + 1 : Nat) : Int) := by rw [w64 (by omega) (by omega)]; omega
   have gf : (false = true) = False := by simp
   cases b with
   | false =>
    refine ⟨false, fun k hk => ?_⟩
    obtain ⟨k, rfl⟩ : ∃ m, k = m + 1 := ⟨k - 1, by omega⟩
    simp only [aC_.l0, aj_.l0, g1, g2, g3, if_true, e1 k (by omega), e2 k (by omega), Option.bind_some, gf, if_false]
    exact ⟨trivial, trivial⟩
   | true =>
    by_cases hi : i = 0
    rotate_left
    ·have g5 : ((i : Int) > 0) = True := eq_true (by omega)
     have g6 : wrap64 ((i : Int) - 1) = (i : Int) - 1 := w64 (by omega) (by omega)
     have g7 : (0 ≤ (i : Int) - 1) = True := eq_true (by omega)
     have g8 : ((i : Int) - 1 < (m.length : Int)) = True := eq_true (by omega)
     obtain ⟨t, t1, t2⟩ := before_ev (aa_ m ((i : Int) - 1)) m[i]
     by_cases ht : t ≥ 0
     rotate_left
     ·have ht1 : (t ≥ 0) = False := eq_false ht
      rw [show (!decide (t ≥ 0)) = true by simp; omega] at t1
      refine ⟨c, fun k hk => ?_⟩
      obtain ⟨k, rfl⟩ : ∃ m, k = m + 1 := ⟨k - 1, by omega⟩
      obtain ⟨f1, f2⟩ := hk0 k (by omega)
      simp only [aC_.l0, aj_.l0, g1, g2, g3, if_true, e1 k (by omega), e2 k (by omega), Option.bind_some, g5, g6, g7, g8, t1, t2, ht1, if_false, g4]
      exact ⟨f1, f2⟩
     have ht1 : (t ≥ 0) = True := eq_true ht
     rw [show (!decide (t ≥ 0)) = false by simp; omega] at t1
     refine ⟨false, fun k hk => ?_⟩
     obtain ⟨k, rfl⟩ : ∃ m, k = m + 1 := ⟨k - 1, by omega⟩
     simp only [aC_.l0, aj_.l0, g1, g2, g3, if_true, e1 k (by omega), e2 k (by omega), Option.bind_some, g5, g6, g7, g8, t1, t2, ht1, gf, if_false]
     exact ⟨trivial, trivial⟩
    have g5 : ((i : Int) > 0) = False := eq_false (by omega)
    refine ⟨c, fun k hk => ?_⟩
    obtain ⟨k, rfl⟩ : ∃ m, k = m + 1 := ⟨k - 1, by omega⟩
    obtain ⟨f1, f2⟩ := hk0 k (by omega)
    simp only [aC_.l0, aj_.l0, g1, g2, g3, if_true, e1 k (by omega), e2 k (by omega), Option.bind_some, g5, if_false, g4]
    exact ⟨f1, f2⟩
 obtain ⟨b, hk0⟩ := go m.length 0 (by omega)
 exact ⟨b, fun k hk => hk0 k (by omega)⟩
abbrev Blk := S32
def cB : List UInt8 × List UInt8 → List UInt8 × List UInt8 → Int := lx Go.Lib.compareBytes
theorem cB_ord : Ordr cB := lx_ord cb_ord
def ckB (x : Blk) : List UInt8 × List UInt8 := (x.f0.data.toList, x.f1.data.toList)
theorem cmp_ev (a0 a1 a2 b0 b1 b2 : ByteArray) : be_.f a0 a1 a2 b0 b1 b2 = some (cB (a0.data.toList, a1.data.toList) (b0.data.toList, b1.data.toList)) := by
 unfold be_.f strings_Compare.f cB lx
 simp only [Option.bind_some]
 split <;> rfl
theorem bfr_ev (x y : Blk) : bt_.f [x] [y] = some (decide (cB (ckB x) (ckB y) < 0)) := by
 obtain ⟨c, h1, h2⟩ := before_ev x y
 rw [cmp_ev] at h2
 have h3 : cB (ckB x) (ckB y) = c := Option.some.inj h2
 rw [h1, ← h3]
 congr 1
 by_cases h : cB (ckB x) (ckB y) < 0
 rotate_left
 ·simp [h]; omega
 simp [h]
theorem key_iff (x : Blk) (u v : ByteArray) : cB (ckB x) (u.data.toList, v.data.toList) = 0 ↔ x.f0.toList = u.toList ∧ x.f1.toList = v.toList := by
 rw [cB_ord.zero]
 simp only [ckB, Prod.mk.injEq, Go.ByteArray.toList_eq]
theorem bs_ev (l : List Blk) (hl : (l.length : Int) ≤ 1048576) (u v w : ByteArray) (hr : Rsg (fun x => cB (ckB x) (u.data.toList, v.data.toList)) l) :
  Ev (fun k => ap_.f k l u v w) (((plc (fun x => cB (ckB x) (u.data.toList, v.data.toList)) l : Nat) : Int), fnd (fun x => cB (ckB x) (u.data.toList, v.data.toList)) l) := by
 have hp0 := plc_le (fun x => cB (ckB x) (u.data.toList, v.data.toList)) l
 have go : ∀ (d i j : Nat), j = i + d → i ≤ plc (fun x => cB (ckB x) (u.data.toList, v.data.toList)) l → plc (fun x => cB (ckB x) (u.data.toList, v.data.toList)) l ≤ j → j ≤ l.length → Ev (fun k => ap_.l0 k l (l.length : Int) i j u v w) (((plc (fun x => cB (ckB x) (u.data.toList, v.data.toList)) l : Nat) : Int), fnd (fun x => cB (ckB x) (u.data.toList, v.data.toList)) l) := by
  intro d
  induction d using Nat.strongRecOn with
  | _ d ih =>
  intro i j h1 h2 h3 h4
  refine bm_ ?_
  simp only [ap_.l0]
  by_cases hd : d = 0
  rotate_left
  ·refine Ev_t (by omega) ?_
   rw [mid_ev i j (by omega)]
   obtain ⟨m, hm⟩ : ∃ m, m = (i + j) / 2 := ⟨_, rfl⟩
   rw [← hm]
   have hm1 : m < l.length := by omega
   refine Ev_t (by omega) (Ev_t (by omega) ?_)
   rw [bL_ l m hm1, cmp_ev]
   refine Ev_s ?_
   by_cases hc : cB (l[m].f0.data.toList, l[m].f1.data.toList) (u.data.toList, v.data.toList) < 0
   rotate_left
   ·refine Ev_f hc ?_
    refine ih (m - i) (by omega) i m (by omega) h2 ?_ (by omega)
    rcases Nat.lt_or_ge m (plc (fun x => cB (ckB x) (u.data.toList, v.data.toList)) l) with g | g
    ·exact absurd (plc_lt _ l m hm1 g) hc
    ·exact g
   refine Ev_t hc ?_
   rw [wr64s m (by omega)]
   refine ih (j - (m + 1)) (by omega) (m + 1) j (by omega) ?_ h3 h4
   rcases Nat.lt_or_ge m (plc (fun x => cB (ckB x) (u.data.toList, v.data.toList)) l) with g | g
   ·exact g
   ·rcases Nat.lt_or_eq_of_le g with g | g
    ·have hgt : 0 < cB (ckB l[m]) (u.data.toList, v.data.toList) := hr.gt m hm1 g
     have hc' : cB (ckB l[m]) (u.data.toList, v.data.toList) < 0 := hc
     omega
    ·have := plc_at (fun x => cB (ckB x) (u.data.toList, v.data.toList)) l (by omega)
     simp only [g] at this
     have hc' : cB (ckB l[m]) (u.data.toList, v.data.toList) < 0 := hc
     omega
  refine Ev_f (by omega) ?_
  have hp : plc (fun x => cB (ckB x) (u.data.toList, v.data.toList)) l = i := by omega
  by_cases hn : i < l.length
  rotate_left
  ·refine Ev_f (by omega) (Ev_n ?_)
   unfold fnd
   rw [dif_neg (by omega), hp]
  refine Ev_t (by omega) (Ev_t (by omega) (Ev_t (by omega) ?_))
  rw [bL_ l i hn, cmp_ev]
  refine Ev_s (Ev_n ?_)
  unfold fnd
  rw [dif_pos (by omega)]
  simp only [hp]
  rfl
 simp only [ap_.f]
 exact go l.length 0 l.length (by omega) (by omega) hp0 (Nat.le_refl _)
theorem find_ev (l : List Blk) (hl : (l.length : Int) ≤ 1048576) (u v : ByteArray) (hr : Rsg (fun x => cB (ckB x) (u.data.toList, v.data.toList)) l) :
  Ev (fun k => bk_.f k l u v) (if fnd (fun x => cB (ckB x) (u.data.toList, v.data.toList)) l = true then ((plc (fun x => cB (ckB x) (u.data.toList, v.data.toList)) l : Nat) : Int) else -1) := by
 obtain ⟨c, hc⟩ : ∃ c, c = (fun x => cB (ckB x) (u.data.toList, v.data.toList)) := ⟨_, rfl⟩
 rw [← hc] at hr ⊢
 have key : ∀ x, c x = 0 ↔ x.f0.toList = u.toList ∧ x.f1.toList = v.toList := fun x => by rw [hc]; exact key_iff x u v
 have go : ∀ (d i : Nat), i + d = l.length → (∀ (j : Nat) (hj : j < l.length), j < i → c l[j] ≠ 0) → Ev (fun k => bk_.l0 k l u v i) (if fnd c l = true then ((plc c l : Nat) : Int) else -1) := by
  intro d
  induction d with
  | zero =>
   intro i h1 h2
   refine bm_ ?_
   simp only [bk_.l0]
   refine Ev_f (by omega) (Ev_n ?_)
   rw [if_neg]
   intro h
   obtain ⟨hp, h0⟩ := fnd_t h
   exact h2 _ hp (by omega) h0
  | succ d ih =>
   intro i h1 h2
   refine bm_ ?_
   simp only [bk_.l0]
   refine Ev_t (by omega) (Ev_t (by omega) ?_)
   rw [bL_ l i (by omega), wr64s i (by omega)]
   have more : c l[i] ≠ 0 → Ev (fun k => bk_.l0 k l u v ((i + 1 : Nat) : Int)) (if fnd c l = true then ((plc c l : Nat) : Int) else -1) := fun hn =>
    ih (i + 1) (by omega) (fun j hj hji => by
     rcases Nat.lt_or_eq_of_le (Nat.le_of_lt_succ hji) with g | g
     ·exact h2 j hj g
     ·subst g; exact hn)
   by_cases e0 : l[i].f0.toList = u.toList
   rotate_left
   ·exact Ev_f e0 (more (fun h => e0 ((key _).1 h).1))
   refine Ev_t e0 ?_
   by_cases e1 : l[i].f1.toList = v.toList
   rotate_left
   ·exact Ev_f e1 (more (fun h => e1 ((key _).1 h).2))
   refine Ev_t e1 (Ev_n ?_)
   have hz := (key l[i]).2 ⟨e0, e1⟩
   have hp : plc c l = i := by
    rcases Nat.lt_trichotomy i (plc c l) with g | g | g
    ·have := plc_lt c l i (by omega) g; omega
    ·exact g.symm
    ·have := hr.gt i (by omega) g; omega
   have hf : fnd c l = true := by
    unfold fnd
    rw [dif_pos (by omega)]
    simp only [hp, hz, decide_true]
   rw [if_pos hf, hp]
 simp only [bk_.f]
 exact go l.length 0 (by omega) (fun j _ hj => by omega)
def putB (l : List Blk) (b : Blk) : List Blk :=
 if fnd (fun x => cB (ckB x) (ckB b)) l = true then l.take (plc (fun x => cB (ckB x) (ckB b)) l) ++ b :: l.drop (plc (fun x => cB (ckB x) (ckB b)) l + 1)
 else l.take (plc (fun x => cB (ckB x) (ckB b)) l) ++ b :: l.drop (plc (fun x => cB (ckB x) (ckB b)) l)
theorem put_ev (l : List Blk) (hl : (l.length : Int) ≤ 1048576) (b : Blk) (hr : Rsg (fun x => cB (ckB x) (ckB b)) l) : Ev (fun k => aB_.f k l b.f0 b.f1 b.f2) (putB l b) := by
 obtain ⟨c, hc⟩ : ∃ c, c = (fun x => cB (ckB x) (ckB b)) := ⟨_, rfl⟩
 unfold putB
 rw [← hc] at hr ⊢
 have key : ∀ x, c x = 0 ↔ x.f0.toList = b.f0.toList ∧ x.f1.toList = b.f1.toList := fun x => by rw [hc]; exact key_iff x b.f0 b.f1
 have hb : (⟨b.f0, b.f1, b.f2⟩ : Blk) = b := rfl
 have cEq : ∀ y, cB (ckB y) (ckB b) = c y := fun y => by rw [hc]
 have two : ∀ (d i : Nat) (out : List Blk), i + d = l.length → plc c l < i → out.length ≤ i + 1 → Ev (fun k => aB_.l0 k l out true i b.f0 b.f1 b.f2) (out ++ l.drop i) := by
  intro d
  induction d with
  | zero =>
   intro i out h1 h2 h3
   refine bm_ ?_
   simp only [aB_.l0]
   rw [List.drop_of_length_le (by omega), List.append_nil]
   exact Ev_f (by omega) (Ev_t (by trivial) (Ev_n rfl))
  | succ d ih =>
   intro i out h1 h2 h3
   refine bm_ ?_
   simp only [aB_.l0]
   refine Ev_t (by omega) (Ev_t (by trivial) (bm_ ?_))
   simp only [aB_.j1]
   refine Ev_f (by decide) (Ev_t (by omega) (Ev_t (by omega) ?_))
   rw [bL_ l i (by omega), wr64s i (by omega), List.drop_eq_getElem_cons (show i < l.length by omega)]
   have hn : c l[i] ≠ 0 := by have := hr.gt i (by omega) h2; omega
   have nxt := ih (i + 1) (out ++ [l[i]]) (by omega) (by omega) (by simp; omega)
   rw [List.append_assoc, List.singleton_append] at nxt
   by_cases e0 : l[i].f0.toList = b.f0.toList
   rotate_left
   ·exact Ev_f e0 (Ev_t (by omega) nxt)
   refine Ev_t e0 (Ev_f (fun e1 => hn ((key _).2 ⟨e0, e1⟩)) (Ev_t (by omega) nxt))
 have one : ∀ (d i : Nat), i + d = plc c l → Ev (fun k => aB_.l0 k l (l.take i) false i b.f0 b.f1 b.f2) (if fnd c l = true then l.take (plc c l) ++ b :: l.drop (plc c l + 1) else l.take (plc c l) ++ b :: l.drop (plc c l)) := by
  have hp0 := plc_le c l
  intro d
  induction d with
  | zero =>
   intro i h1
   have h1' : i = plc c l := by omega
   subst h1'
   refine bm_ ?_
   simp only [aB_.l0]
   have hlen : (l.take (plc c l)).length = plc c l := by simp; omega
   by_cases hn : plc c l < l.length
   rotate_left
   ·have hf : ¬ fnd c l = true := by unfold fnd; rw [dif_neg hn]; decide
    rw [if_neg hf, List.drop_of_length_le (by omega)]
    exact Ev_f (by omega) (Ev_f (by decide) (Ev_t (by omega) (Ev_n rfl)))
   refine Ev_t (by omega) (Ev_f (by decide) (Ev_t (by omega) ?_))
   rw [bL_ l _ hn, hb, bfr_ev]
   refine Ev_s (bm_ ?_)
   have h0 := plc_at c l hn
   rw [cEq]
   simp only [aB_.j1]
   refine Ev_t (by simpa using h0) (Ev_t (by omega) (Ev_s (Ev_t (by omega) (Ev_t (by omega) ?_))))
   rw [bL_ l _ hn, hb, wr64s _ (by omega)]
   have more : ∀ out : List Blk, out.length ≤ plc c l + 2 → Ev (fun k => aB_.l0 k l out true ((plc c l + 1 : Nat) : Int) b.f0 b.f1 b.f2) (out ++ l.drop (plc c l + 1)) := fun out ho =>
    two (l.length - (plc c l + 1)) (plc c l + 1) out (by omega) (by omega) ho
   by_cases hz : c l[plc c l] = 0
   rotate_left
   ·have hf : ¬ fnd c l = true := by unfold fnd; rw [dif_pos hn]; simpa using hz
    rw [if_neg hf]
    have last := more (l.take (plc c l) ++ [b] ++ [l[plc c l]]) (by simp; omega)
    have last' : Ev (fun k => aB_.l0 k l (l.take (plc c l) ++ [b] ++ [(⟨l[plc c l].f0, l[plc c l].f1, l[plc c l].f2⟩ : Blk)]) true ((plc c l + 1 : Nat) : Int) b.f0 b.f1 b.f2) (l.take (plc c l) ++ b :: l.drop (plc c l)) := by
     refine Ev_at last ?_
     rw [List.append_assoc, List.append_assoc, List.singleton_append, List.singleton_append, List.getElem_cons_drop]
    by_cases e0 : l[plc c l].f0.toList = b.f0.toList
    rotate_left
    ·exact Ev_f e0 (Ev_t (by simp; omega) last')
    exact Ev_t e0 (Ev_f (fun e1 => hz ((key _).2 ⟨e0, e1⟩)) (Ev_t (by simp; omega) last'))
   have hf : fnd c l = true := by unfold fnd; rw [dif_pos hn]; simpa using hz
   rw [if_pos hf]
   obtain ⟨e0, e1⟩ := (key _).1 hz
   refine Ev_t e0 (Ev_t e1 ?_)
   refine Ev_at (more _ (by simp; omega)) ?_
   rw [List.append_assoc, List.singleton_append]
  | succ d ih =>
   intro i h1
   have hi : i < l.length := by omega
   have hlen : (l.take i).length = i := by simp; omega
   refine bm_ ?_
   simp only [aB_.l0]
   refine Ev_t (by omega) (Ev_f (by decide) (Ev_t (by omega) ?_))
   rw [bL_ l i hi, hb, bfr_ev]
   refine Ev_s (bm_ ?_)
   have h0 := plc_lt c l i hi (by omega)
   rw [cEq]
   simp only [aB_.j1]
   refine Ev_f (by simpa using h0) (Ev_t (by omega) (Ev_t (by omega) ?_))
   rw [bL_ l i hi, wr64s i (by omega)]
   have nxt := ih (i + 1) (by omega)
   rw [List.take_succ_eq_append_getElem hi] at nxt
   by_cases e0 : l[i].f0.toList = b.f0.toList
   rotate_left
   ·exact Ev_f e0 (Ev_t (by omega) nxt)
   exact Ev_t e0 (Ev_f (fun e1 => by have := (key _).2 ⟨e0, e1⟩; omega) (Ev_t (by omega) nxt))
 simp only [aB_.f]
 exact one (plc c l) 0 (by omega)
theorem ok_loop (m : List Blk) (hl : (m.length : Int) ≤ 1048576) : ∀ (d i k : Nat), i + d = m.length → aC_.l0 k m i = some true → m.length ≤ 32 ∧ ∀ (j : Nat), i ≤ j → 0 < j → ∀ (hj : j < m.length), cB (ckB (m[j - 1]'(by omega))) (ckB m[j]) < 0 := by
 intro d
 induction d with
 | zero =>
  intro i k h1 h
  cases k with
  | zero => simp [aC_.l0] at h
  | succ k =>
   simp only [aC_.l0] at h
   rw [if_neg (by omega)] at h
   have h := Option.some.inj h
   exact ⟨by have := of_decide_eq_true h; omega, fun j h2 _ hj => by omega⟩
 | succ d ih =>
  intro i k h1 h
  cases k with
  | zero => simp [aC_.l0] at h
  | succ k =>
   simp only [aC_.l0] at h
   rw [if_pos (by omega), if_pos (by omega)] at h
   obtain ⟨t, _, h⟩ := Option.bind_eq_some_iff.1 h
   cases t with
   | false => simp at h
   | true =>
    rw [if_pos rfl] at h
    by_cases hi : i = 0
    rotate_left
    ·have e : wrap64 ((i : Int) - 1) = ((i - 1 : Nat) : Int) := by rw [wr64 (by omega) (by omega)]; omega
     rw [if_pos (by omega), e, if_pos (by omega), if_pos (by omega), bL_ m (i - 1) (by omega), bL_ m i (by omega), bfr_ev] at h
     simp only [Option.bind_some] at h
     by_cases hc : cB (ckB (m[i - 1]'(by omega))) (ckB (m[i]'(by omega))) < 0
     rotate_left
     ·rw [if_neg (by simpa using hc)] at h
      simp at h
     rw [if_pos (by simpa using hc), wr64s i (by omega)] at h
     obtain ⟨a1, a2⟩ := ih (i + 1) k (by omega) h
     refine ⟨a1, fun j h2 h3 hj => ?_⟩
     rcases Nat.lt_or_eq_of_le h2 with g | g
     ·exact a2 j (by omega) h3 hj
     ·subst g; exact hc
    subst hi
    rw [if_neg (by omega), wr64s 0 (by omega)] at h
    obtain ⟨a1, a2⟩ := ih 1 k (by omega) h
    exact ⟨a1, fun j h2 h3 hj => a2 j (by omega) h3 hj⟩
theorem ok_ev (m : List Blk) (hl : (m.length : Int) ≤ 1048576) (hw : ∀ y ∈ m, (y.f2.size : Int) ≤ 1048576) : ∃ b, Ev (fun k => aC_.f k m) b ∧ Ev (fun k => aj_.f k m) b ∧ (b = true → m.length ≤ 32 ∧ ∀ t, Rsg (fun x => cB (ckB x) t) m) := by
 obtain ⟨b, hb⟩ := validBS_ev m hl hw
 refine ⟨b, ⟨4000001, fun k hk => (hb k (by omega)).1⟩, ⟨4000001, fun k hk => (hb k (by omega)).2⟩, fun h => ?_⟩
 subst h
 have h1 := (hb 4000001 (by omega)).1
 simp only [aC_.f] at h1
 obtain ⟨a1, a2⟩ := ok_loop m hl m.length 0 4000001 (by omega) h1
 refine ⟨a1, fun t => rsg_of cB_ord ckB (fun i hi => ?_) t⟩
 exact a2 (i + 1) (by omega) (by omega) hi
theorem dropL (l : List Blk) (i : Nat) : l.eraseIdx i = l.take i ++ l.drop (i + 1) := List.eraseIdx_eq_take_drop_succ l i
theorem named_ev (m : List Blk) (hl : (m.length : Int) ≤ 1048576) (hw : ∀ y ∈ m, (y.f2.size : Int) ≤ 1048576) (u v : ByteArray) : ∃ r, Ev (fun k => bY_.f k m u v) r ∧ Ev (fun k => bw_.f k m u v) r := by
 obtain ⟨b, e1, e2, hb⟩ := ok_ev m hl hw
 cases b with
 | false =>
  refine ⟨((⟨#[]⟩ : ByteArray), 1), ?_, ?_⟩
  ·simp only [bY_.f]; exact Ev_b e1 (Ev_f (by decide) (Ev_n rfl))
  ·simp only [bw_.f]; exact Ev_b e2 (Ev_f (by decide) (Ev_n rfl))
 | true =>
  obtain ⟨_, hr⟩ := hb rfl
  have f1 := find_ev m hl u v (hr _)
  have f2 := bs_ev m hl u v (⟨#[]⟩ : ByteArray) (hr _)
  cases hf : fnd (fun x => cB (ckB x) (u.data.toList, v.data.toList)) m with
  | false =>
   rw [hf, if_neg (by decide)] at f1
   rw [hf] at f2
   refine ⟨((⟨#[]⟩ : ByteArray), 3), ?_, ?_⟩
   ·simp only [bY_.f]; exact Ev_b e1 (Ev_t rfl (Ev_b f1 (Ev_t (by decide) (Ev_n rfl))))
   ·simp only [bw_.f]; exact Ev_b e2 (Ev_t rfl (Ev_b f2 (Ev_f (by simp) (Ev_n rfl))))
  | true =>
   obtain ⟨hp, _⟩ := fnd_t hf
   rw [hf, if_pos rfl] at f1
   rw [hf] at f2
   refine ⟨((m[plc (fun x => cB (ckB x) (u.data.toList, v.data.toList)) m]'hp).f2, 0), ?_, ?_⟩
   ·simp only [bY_.f]
    exact Ev_b e1 (Ev_t rfl (Ev_b f1 (Ev_f (by omega) (Ev_t (by omega) (Ev_t (by omega) (Ev_n (by rw [bL_ m _ hp])))))))
   ·simp only [bw_.f]
    exact Ev_b e2 (Ev_t rfl (Ev_b f2 (Ev_t rfl (Ev_t (by show (0 : Int) ≤ _; omega) (Ev_t (by show _ < (m.length : Int); omega) (Ev_n (by simp only; rw [bL_ m _ hp])))))))
theorem drop_ev (m : List Blk) (hl : (m.length : Int) ≤ 1048576) (hw : ∀ y ∈ m, (y.f2.size : Int) ≤ 1048576) (u v : ByteArray) : ∃ r c, r.length ≤ 1048576 ∧ Ev (fun k => cd_.f k m u v) (r, c) ∧ Ev (fun k => bS_.f k m u v) (r, c) := by
 obtain ⟨b, e1, e2, hb⟩ := ok_ev m hl hw
 cases b with
 | false =>
  refine ⟨[], 1, by simp, ?_, ?_⟩
  ·simp only [cd_.f]; exact Ev_b e1 (Ev_f (by decide) (Ev_n rfl))
  ·simp only [bS_.f]; exact Ev_b e2 (Ev_f (by decide) (Ev_n rfl))
 | true =>
  obtain ⟨hn, hr⟩ := hb rfl
  have f1 := find_ev m hl u v (hr _)
  have f2 := bs_ev m hl u v (⟨#[]⟩ : ByteArray) (hr _)
  cases hf : fnd (fun x => cB (ckB x) (u.data.toList, v.data.toList)) m with
  | false =>
   rw [hf, if_neg (by decide)] at f1
   rw [hf] at f2
   refine ⟨[], 3, by simp, ?_, ?_⟩
   ·simp only [cd_.f]; exact Ev_b e1 (Ev_t rfl (Ev_b f1 (Ev_t (by decide) (Ev_n rfl))))
   ·simp only [bS_.f]; exact Ev_b e2 (Ev_t rfl (Ev_b f2 (Ev_f (by simp) (Ev_n rfl))))
  | true =>
   obtain ⟨hp, _⟩ := fnd_t hf
   rw [hf, if_pos rfl] at f1
   rw [hf] at f2
   generalize plc (fun x => cB (ckB x) (u.data.toList, v.data.toList)) m = p at hp f1 f2
   refine ⟨m.take p ++ m.drop (p + 1), 0, by simp; omega, ?_, ?_⟩
   ·simp only [cd_.f]
    refine Ev_b e1 (Ev_t rfl (Ev_b f1 (Ev_f (by omega) (Ev_s (Ev_t (by omega) (Ev_t (by omega) (Ev_s (Ev_t (by simp; omega) (Ev_s ?_)))))))))
    rw [wr64s p (by omega)]
    refine Ev_t (by omega) (Ev_t (by omega) (Ev_s (Ev_t (by simp; omega) (Ev_n ?_))))
    rw [List.nil_append]
    rfl
   ·simp only [bS_.f]
    refine Ev_b e2 (Ev_t rfl (Ev_b f2 (Ev_t rfl ?_)))
    refine Ev_b (a := m) (Ev_c (by unfold br_.f; rw [if_pos (by omega)])) ?_
    rw [wr64s p (by omega)]
    refine Ev_b (a := m.take p ++ m.drop (p + 1)) (Ev_c ?_) (Ev_n rfl)
    unfold cb_.f
    rw [if_pos ⟨by omega, by omega, by omega⟩, Int.toNat_natCast, dropL m p]
theorem putin_ev (m : List Blk) (hl : (m.length : Int) ≤ 1048576) (hw : ∀ y ∈ m, (y.f2.size : Int) ≤ 1048576) (b : Blk) (hbw : (b.f2.size : Int) ≤ 1048576) : ∃ r c, r.length ≤ 1048576 ∧ Ev (fun k => aQ_.f k m b.f0 b.f1 b.f2) (r, c) ∧ Ev (fun k => aW_.f k m b.f0 b.f1 b.f2) (r, c) := by
 obtain ⟨ok, e1, e2, hok⟩ := ok_ev m hl hw
 cases ok with
 | false =>
  refine ⟨[], 1, by simp, ?_, ?_⟩
  ·simp only [aQ_.f]; refine Ev_b e1 (Ev_f (by decide) (bm_ ?_)); simp only [aQ_.j0]; exact Ev_t (by trivial) (Ev_n rfl)
  ·simp only [aW_.f]; refine Ev_b e2 (Ev_f (by decide) (bm_ ?_)); simp only [aW_.j0]; exact Ev_t (by trivial) (Ev_n rfl)
 | true =>
  obtain ⟨hn, hr⟩ := hok rfl
  obtain ⟨vb, hvb⟩ := validB_ev b hbw
  have g1 : Ev (fun k => aY_.f k [b]) vb := ⟨2000001, fun k hk => (hvb k (by omega)).1⟩
  have g2 : Ev (fun k => bx_.f k b.f0 b.f1 b.f2) vb := ⟨2000001, fun k hk => (hvb k (by omega)).2⟩
  cases vb with
  | false =>
   refine ⟨[], 1, by simp, ?_, ?_⟩
   ·simp only [aQ_.f]; refine Ev_b e1 (Ev_t rfl (Ev_b g1 (bm_ ?_))); simp only [aQ_.j0]; exact Ev_t (by rfl) (Ev_n rfl)
   ·simp only [aW_.f]; refine Ev_b e2 (Ev_t rfl (Ev_b g2 (bm_ ?_))); simp only [aW_.j0]; exact Ev_t (by rfl) (Ev_n rfl)
  | true =>
   have f1 := put_ev m hl b (hr _)
   have f2 : Ev (fun k => ap_.f k m b.f0 b.f1 b.f2) (((plc (fun x => cB (ckB x) (ckB b)) m : Nat) : Int), fnd (fun x => cB (ckB x) (ckB b)) m) := bs_ev m hl b.f0 b.f1 b.f2 (hr _)
   have cl : br_.f m = some m := by unfold br_.f; rw [if_pos (by omega)]
   have s1 : ∀ r c, (((putB m b).length : Int) > 32 → (r, c) = (([] : List Blk), (5 : Int))) → (¬ ((putB m b).length : Int) > 32 → (r, c) = (putB m b, (0 : Int))) → Ev (fun k => aQ_.f k m b.f0 b.f1 b.f2) (r, c) := by
    intro r c h1 h2
    simp only [aQ_.f]
    refine Ev_b e1 (Ev_t rfl (Ev_b g1 (bm_ ?_)))
    simp only [aQ_.j0]
    refine Ev_f (by decide) (Ev_b f1 ?_)
    by_cases h : ((putB m b).length : Int) > 32
    rotate_left
    ·exact Ev_f h (Ev_n (h2 h).symm)
    exact Ev_t h (Ev_n (h1 h).symm)
   have hpl := plc_le (fun x => cB (ckB x) (ckB b)) m
   cases hf : fnd (fun x => cB (ckB x) (ckB b)) m with
   | true =>
    obtain ⟨hp, _⟩ := fnd_t hf
    have ep : putB m b = m.take (plc (fun x => cB (ckB x) (ckB b)) m) ++ b :: m.drop (plc (fun x => cB (ckB x) (ckB b)) m + 1) := by unfold putB; rw [if_pos hf]
    have el : (putB m b).length = m.length := by rw [ep]; simp; omega
    rw [hf] at f2
    refine ⟨putB m b, 0, by omega, s1 _ _ (fun h => by omega) (fun _ => rfl), ?_⟩
    simp only [aW_.f]
    refine Ev_b e2 (Ev_t rfl (Ev_b g2 (bm_ ?_)))
    simp only [aW_.j0]
    refine Ev_f (by decide) (Ev_b (Ev_c cl) (Ev_b f2 (Ev_t rfl (Ev_t (by show (0 : Int) ≤ _; omega) (Ev_t (by show _ < (m.length : Int); omega) (Ev_n ?_))))))
    rw [ep]
    simp only [Int.toNat_natCast, Prod.mk.injEq, and_true]
    rw [List.set_eq_take_append_cons_drop, if_pos hp]
   | false =>
    have ep : putB m b = m.take (plc (fun x => cB (ckB x) (ckB b)) m) ++ b :: m.drop (plc (fun x => cB (ckB x) (ckB b)) m) := by unfold putB; rw [if_neg (by rw [hf]; decide)]
    have el : (putB m b).length = m.length + 1 := by rw [ep]; simp; omega
    rw [hf] at f2
    by_cases hfull : (m.length : Int) = 32
    rotate_left
    ·refine ⟨putB m b, 0, by omega, s1 _ _ (fun h => by omega) (fun _ => rfl), ?_⟩
     simp only [aW_.f]
     refine Ev_b e2 (Ev_t rfl (Ev_b g2 (bm_ ?_)))
     simp only [aW_.j0]
     refine Ev_f (by decide) (Ev_b (Ev_c cl) (Ev_b f2 (Ev_f (by simp) (Ev_f hfull ?_))))
     refine Ev_b (a := putB m b) (Ev_c ?_) (Ev_n rfl)
     unfold bK_.f
     simp only
     rw [if_pos ⟨by omega, by omega, by omega⟩, Int.toNat_natCast, ep, List.append_assoc]
     rfl
    refine ⟨[], 5, by simp, s1 _ _ (fun _ => rfl) (fun h => by omega), ?_⟩
    simp only [aW_.f]
    refine Ev_b e2 (Ev_t rfl (Ev_b g2 (bm_ ?_)))
    simp only [aW_.j0]
    exact Ev_f (by decide) (Ev_b (Ev_c cl) (Ev_b f2 (Ev_f (by simp) (Ev_t hfull (Ev_n rfl)))))
theorem kinds_ev (m : List Blk) (hl : (m.length : Int) ≤ 1048576) (hw : ∀ y ∈ m, (y.f2.size : Int) ≤ 1048576) (u : ByteArray) : ∃ r c, r.length ≤ 1048576 ∧ Ev (fun k => aE_.f k m u) (r, c) ∧ Ev (fun k => aF_.f k m u) (r, c) := by
 obtain ⟨b, e1, e2, hb⟩ := ok_ev m hl hw
 cases b with
 | false =>
  refine ⟨[], 1, by simp, ?_, ?_⟩
  ·simp only [aE_.f]; exact Ev_b e1 (Ev_f (by decide) (Ev_n rfl))
  ·simp only [aF_.f]; exact Ev_b e2 (Ev_f (by decide) (Ev_n rfl))
 | true =>
  have go : ∀ (d i : Nat) (out : List ByteArray), i + d = m.length → out.length ≤ i → ∃ r, r.length ≤ out.length + d ∧ Ev (fun k => aE_.l0 k m u out i) (r, 0) ∧ Ev (fun k => aF_.l0 k u out m (m.length : Int) i) (r, 0) := by
   intro d
   induction d with
   | zero =>
    intro i out h1 h2
    refine ⟨out, by omega, bm_ ?_, bm_ ?_⟩
    ·simp only [aE_.l0]; exact Ev_f (by omega) (Ev_n rfl)
    ·simp only [aF_.l0]; exact Ev_f (by omega) (Ev_n rfl)
   | succ d ih =>
    intro i out h1 h2
    by_cases e : m[i].f0.toList = u.toList
    rotate_left
    ·obtain ⟨r, r1, r2, r3⟩ := ih (i + 1) out (by omega) (by omega)
     refine ⟨r, by omega, bm_ ?_, bm_ ?_⟩
     ·simp only [aE_.l0]
      refine Ev_t (by omega) (Ev_t (by omega) ?_)
      rw [bL_ m i (by omega), wr64s i (by omega)]
      exact Ev_f e r2
     ·simp only [aF_.l0]
      refine Ev_t (by omega) (Ev_t (by omega) (Ev_t (by omega) ?_))
      rw [bL_ m i (by omega), wr64s i (by omega)]
      exact Ev_f e r3
    obtain ⟨r, r1, r2, r3⟩ := ih (i + 1) (out ++ [m[i].f1]) (by omega) (by simp; omega)
    refine ⟨r, by simp at r1; omega, bm_ ?_, bm_ ?_⟩
    ·simp only [aE_.l0]
     refine Ev_t (by omega) (Ev_t (by omega) ?_)
     rw [bL_ m i (by omega), wr64s i (by omega)]
     exact Ev_t e (Ev_t (by omega) r2)
    ·simp only [aF_.l0]
     refine Ev_t (by omega) (Ev_t (by omega) (Ev_t (by omega) ?_))
     rw [bL_ m i (by omega), wr64s i (by omega)]
     exact Ev_t e (Ev_t (by omega) r3)
  obtain ⟨r, r1, r2, r3⟩ := go m.length 0 [] (by omega) (by simp)
  refine ⟨r, 0, by simp at r1; omega, ?_, ?_⟩
  ·simp only [aE_.f]; exact Ev_b e1 (Ev_t rfl r2)
  ·simp only [aF_.f]; exact Ev_b e2 (Ev_t rfl r3)
abbrev lessB (x y : Blk) : Prop := cB (ckB x) (ckB y) < 0
theorem pw_of (l : List Blk) (h : ∀ (i : Nat) (hi : i + 1 < l.length), lessB (l[i]'(by omega)) l[i + 1]) : l.Pairwise lessB := by
 rw [List.pairwise_iff_getElem]
 have q : ∀ (d i : Nat) (hj : i + d + 1 < l.length), lessB (l[i]'(by omega)) l[i + d + 1] := by
  intro d
  induction d with
  | zero => intro i hj; exact h i hj
  | succ d ih => intro i hj; exact cB_ord.trans _ _ _ (ih i (by omega)) (h (i + d + 1) (by omega))
 intro i j hi hj hij
 have e : i + (j - i - 1) + 1 = j := by omega
 have := q (j - i - 1) i (by omega)
 simp only [e] at this
 exact this
theorem rsg_pw {l : List Blk} (h : l.Pairwise lessB) (t : List UInt8 × List UInt8) : Rsg (fun x => cB (ckB x) t) l := by
 intro i j hi hj h0
 exact cB_ord.step ((List.pairwise_iff_getElem.1 h) i j (by omega) hj hi) h0
theorem less_irr (x : Blk) : ¬ lessB x x := by
 intro h
 have := (cB_ord.zero (ckB x) (ckB x)).2 rfl
 unfold lessB at h
 omega
theorem less_asym {x y : Blk} (h : lessB x y) : ¬ lessB y x := by
 intro h2
 have := (cB_ord.anti (ckB x) (ckB y)).1 h
 unfold lessB at h2
 omega
theorem pw_ext : ∀ (l m : List Blk), l.Pairwise lessB → m.Pairwise lessB → (∀ x, x ∈ l ↔ x ∈ m) → l = m
 | [], [], _, _, _ => rfl
 | [], y :: m, _, _, h => by have := (h y).2 List.mem_cons_self; cases this
 | x :: l, [], _, _, h => by have := (h x).1 List.mem_cons_self; cases this
 | x :: l, y :: m, h1, h2, h => by
  obtain ⟨a1, a2⟩ := List.pairwise_cons.1 h1
  obtain ⟨b1, b2⟩ := List.pairwise_cons.1 h2
  have e : x = y := by
   rcases List.mem_cons.1 ((h x).1 List.mem_cons_self) with e | e
   ·exact e
   ·rcases List.mem_cons.1 ((h y).2 List.mem_cons_self) with e' | e'
    ·exact e'.symm
    ·exact absurd (a1 y e') (less_asym (b1 x e))
  subst e
  congr 1
  refine pw_ext l m a2 b2 (fun z => ⟨fun hz => ?_, fun hz => ?_⟩)
  ·rcases List.mem_cons.1 ((h z).1 (List.mem_cons_of_mem _ hz)) with e | e
   ·subst e; exact absurd (a1 z hz) (less_irr z)
   ·exact e
  ·rcases List.mem_cons.1 ((h z).2 (List.mem_cons_of_mem _ hz)) with e | e
   ·subst e; exact absurd (b1 z hz) (less_irr z)
   ·exact e
theorem ahead_lt {l : List Blk} {t : List UInt8 × List UInt8} {x : Blk} (h : x ∈ l.take (plc (fun x => cB (ckB x) t) l)) : cB (ckB x) t < 0 := by
 obtain ⟨i, hi, rfl⟩ := List.mem_iff_getElem.1 h
 rw [List.getElem_take]
 exact plc_lt (fun x => cB (ckB x) t) l i (by simp at hi; omega) (by simp at hi; omega)
theorem behind_gt {l : List Blk} {t : List UInt8 × List UInt8} (hr : Rsg (fun x => cB (ckB x) t) l) {x : Blk} (h : x ∈ l.drop (plc (fun x => cB (ckB x) t) l + 1)) : 0 < cB (ckB x) t := by
 obtain ⟨i, hi, rfl⟩ := List.mem_iff_getElem.1 h
 rw [List.getElem_drop]
 exact hr.gt _ (by simp at hi; omega) (by omega)
theorem put_pw {l : List Blk} (h : l.Pairwise lessB) (b : Blk) : (putB l b).Pairwise lessB := by
 have hr := rsg_pw h (ckB b)
 have hp := plc_le (fun x => cB (ckB x) (ckB b)) l
 have key : ∀ q, (∀ x ∈ l.drop q, 0 < cB (ckB x) (ckB b)) → plc (fun x => cB (ckB x) (ckB b)) l ≤ q → (l.take (plc (fun x => cB (ckB x) (ckB b)) l) ++ b :: l.drop q).Pairwise lessB := by
  intro q hq hle
  rw [List.pairwise_append]
  refine ⟨h.sublist (List.take_sublist _ _), ?_, ?_⟩
  ·rw [List.pairwise_cons]
   exact ⟨fun y hy => (cB_ord.anti _ _).2 (hq y hy), h.sublist (List.drop_sublist _ _)⟩
  ·intro x hx y hy
   have hx0 := ahead_lt hx
   rcases List.mem_cons.1 hy with e | e
   ·subst e; exact hx0
   ·exact cB_ord.trans _ _ _ hx0 ((cB_ord.anti _ _).2 (hq y e))
 unfold putB
 split
 ·exact key _ (fun x hx => behind_gt hr hx) (by omega)
 ·rename_i hf
  refine key _ (fun x hx => ?_) (Nat.le_refl _)
  obtain ⟨i, hi, rfl⟩ := List.mem_iff_getElem.1 hx
  rw [List.getElem_drop]
  simp at hi
  have hn := fnd_f hr (by simpa using hf) (plc (fun x => cB (ckB x) (ckB b)) l + i) (by omega)
  rcases Nat.eq_zero_or_pos i with g | g
  ·subst g
   have := plc_at (fun x => cB (ckB x) (ckB b)) l (by omega)
   simp only [Nat.add_zero] at hn ⊢
   omega
  ·exact hr.gt _ (by omega) (by omega)
theorem put_mem {l : List Blk} (h : l.Pairwise lessB) (b x : Blk) : x ∈ putB l b ↔ x = b ∨ (x ∈ l ∧ cB (ckB x) (ckB b) ≠ 0) := by
 have hr := rsg_pw h (ckB b)
 have hp := plc_le (fun x => cB (ckB x) (ckB b)) l
 unfold putB
 split
 ·rename_i hf
  obtain ⟨hlt, hz⟩ := fnd_t hf
  rw [List.mem_append, List.mem_cons]
  constructor
  ·rintro (q | q | q)
   ·exact .inr ⟨List.mem_of_mem_take q, by have := ahead_lt q; omega⟩
   ·exact .inl q
   ·exact .inr ⟨List.mem_of_mem_drop q, by have := behind_gt hr q; omega⟩
  ·rintro (q | ⟨q1, q2⟩)
   ·exact .inr (.inl q)
   ·rw [← List.take_append_drop (plc (fun x => cB (ckB x) (ckB b)) l) l, List.mem_append, List.drop_eq_getElem_cons hlt, List.mem_cons] at q1
    rcases q1 with q | q | q
    ·exact .inl q
    ·subst q; exact absurd hz q2
    ·exact .inr (.inr q)
 ·rename_i hf
  rw [List.mem_append, List.mem_cons]
  constructor
  ·rintro (q | q | q)
   ·exact .inr ⟨List.mem_of_mem_take q, by have := ahead_lt q; omega⟩
   ·exact .inl q
   ·refine .inr ⟨List.mem_of_mem_drop q, ?_⟩
    obtain ⟨i, hi, rfl⟩ := List.mem_iff_getElem.1 (List.mem_of_mem_drop q)
    exact fnd_f hr (by simpa using hf) i hi
  ·rintro (q | ⟨q1, q2⟩)
   ·exact .inr (.inl q)
   ·rw [← List.take_append_drop (plc (fun x => cB (ckB x) (ckB b)) l) l, List.mem_append] at q1
    rcases q1 with q | q
    ·exact .inl q
    ·exact .inr (.inr q)
theorem put_len (l : List Blk) (b : Blk) : (putB l b).length ≤ l.length + 1 := by
 have hp := plc_le (fun x => cB (ckB x) (ckB b)) l
 unfold putB
 split <;> simp <;> omega
def insB (l : List Blk) (b : Blk) : List Blk := if fnd (fun x => cB (ckB x) (ckB b)) l = true then l else putB l b
theorem ins_pw {l : List Blk} (h : l.Pairwise lessB) (b : Blk) : (insB l b).Pairwise lessB := by
 unfold insB
 split
 ·exact h
 ·exact put_pw h b
theorem fnd_iff {l : List Blk} (h : l.Pairwise lessB) (b : Blk) : fnd (fun x => cB (ckB x) (ckB b)) l = true ↔ ∃ y ∈ l, cB (ckB y) (ckB b) = 0 := by
 constructor
 ·intro hf
  obtain ⟨hlt, hz⟩ := fnd_t hf
  exact ⟨_, List.getElem_mem hlt, hz⟩
 ·rintro ⟨y, hy, hz⟩
  cases hf : fnd (fun x => cB (ckB x) (ckB b)) l with
  | true => rfl
  | false =>
   obtain ⟨i, hi, rfl⟩ := List.mem_iff_getElem.1 hy
   exact absurd hz (fnd_f (rsg_pw h (ckB b)) hf i hi)
theorem ins_mem {l : List Blk} (h : l.Pairwise lessB) (b x : Blk) : x ∈ insB l b ↔ x ∈ l ∨ (x = b ∧ ∀ y ∈ l, cB (ckB y) (ckB b) ≠ 0) := by
 unfold insB
 split
 ·rename_i hf
  obtain ⟨y, hy, hz⟩ := (fnd_iff h b).1 hf
  exact ⟨.inl, fun q => q.elim id (fun q => absurd hz (q.2 y hy))⟩
 ·rename_i hf
  have hn : ∀ y ∈ l, cB (ckB y) (ckB b) ≠ 0 := fun y hy hz => hf ((fnd_iff h b).2 ⟨y, hy, hz⟩)
  rw [put_mem h]
  exact ⟨fun q => q.elim (fun e => .inr ⟨e, hn⟩) (fun q => .inl q.1), fun q => q.elim (fun q => .inr ⟨q, hn x q⟩) (fun q => .inl q.1)⟩
theorem ne_of_less {x y : Blk} (h : lessB x y) : cB (ckB x) (ckB y) ≠ 0 ∧ cB (ckB y) (ckB x) ≠ 0 := by
 have := (cB_ord.anti (ckB x) (ckB y)).1 h
 unfold lessB at h
 exact ⟨by omega, by omega⟩
theorem zsym (x y : Blk) : cB (ckB x) (ckB y) = 0 ↔ cB (ckB y) (ckB x) = 0 := by rw [cB_ord.zero, cB_ord.zero]; exact eq_comm
theorem puts_mem : ∀ (ys l : List Blk), l.Pairwise lessB → ys.Pairwise lessB → (ys.foldl putB l).Pairwise lessB ∧ ∀ x, x ∈ ys.foldl putB l ↔ x ∈ ys ∨ (x ∈ l ∧ ∀ y ∈ ys, cB (ckB x) (ckB y) ≠ 0)
 | [], l, h, _ => ⟨h, fun x => by simp⟩
 | y :: ys, l, h, hy => by
  obtain ⟨y1, y2⟩ := List.pairwise_cons.1 hy
  obtain ⟨i1, i2⟩ := puts_mem ys (putB l y) (put_pw h y) y2
  refine ⟨i1, fun x => ?_⟩
  rw [List.foldl_cons, i2 x, put_mem h]
  simp only [List.mem_cons]
  constructor
  ·rintro (q | ⟨q | ⟨q1, q2⟩, q3⟩)
   ·exact .inl (.inr q)
   ·exact .inl (.inl q)
   ·refine .inr ⟨q1, fun z hz => ?_⟩
    rcases hz with e | e
    ·subst e; exact q2
    ·exact q3 z e
  ·rintro ((q | q) | ⟨q1, q2⟩)
   ·subst q; exact .inr ⟨.inl rfl, fun z hz => (ne_of_less (y1 z hz)).1⟩
   ·exact .inl q
   ·exact .inr ⟨.inr ⟨q1, q2 y (.inl rfl)⟩, fun z hz => q2 z (.inr hz)⟩
theorem inss_mem : ∀ (xs l : List Blk), l.Pairwise lessB → xs.Pairwise lessB → (xs.foldl insB l).Pairwise lessB ∧ ∀ x, x ∈ xs.foldl insB l ↔ x ∈ l ∨ (x ∈ xs ∧ ∀ y ∈ l, cB (ckB y) (ckB x) ≠ 0)
 | [], l, h, _ => ⟨h, fun x => by simp⟩
 | z :: xs, l, h, hz => by
  obtain ⟨z1, z2⟩ := List.pairwise_cons.1 hz
  obtain ⟨i1, i2⟩ := inss_mem xs (insB l z) (ins_pw h z) z2
  refine ⟨i1, fun x => ?_⟩
  rw [List.foldl_cons, i2 x]
  simp only [List.mem_cons]
  constructor
  ·rintro (q | ⟨q1, q2⟩)
   ·rcases (ins_mem h z x).1 q with q | ⟨q, q'⟩
    ·exact .inl q
    ·subst q; exact .inr ⟨.inl rfl, q'⟩
   ·exact .inr ⟨.inr q1, fun y hy => q2 y ((ins_mem h z y).2 (.inl hy))⟩
  ·rintro (q | ⟨q | q, q2⟩)
   ·exact .inl ((ins_mem h z x).2 (.inl q))
   ·subst q; exact .inl ((ins_mem h x x).2 (.inr ⟨rfl, q2⟩))
   ·refine .inr ⟨q, fun y hy => ?_⟩
    rcases (ins_mem h z y).1 hy with e | ⟨e, _⟩
    ·exact q2 y e
    ·subst e; exact (ne_of_less (z1 x q)).1
theorem merged_eq (a b : List Blk) (ha : a.Pairwise lessB) (hb : b.Pairwise lessB) : b.foldl putB a = a.foldl insB b := by
 obtain ⟨p1, p2⟩ := puts_mem b a ha hb
 obtain ⟨q1, q2⟩ := inss_mem a b hb ha
 refine pw_ext _ _ p1 q1 (fun x => ?_)
 rw [p2, q2]
 constructor
 ·rintro (h | ⟨h, h'⟩)
  ·exact .inl h
  ·exact .inr ⟨h, fun y hy e => h' y hy ((zsym _ _).2 e)⟩
 ·rintro (h | ⟨h, h'⟩)
  ·exact .inl h
  ·exact .inr ⟨h, fun y hy e => h' y hy ((zsym _ _).1 e)⟩
theorem okpw_ev (m : List Blk) (hl : (m.length : Int) ≤ 1048576) (hw : ∀ y ∈ m, (y.f2.size : Int) ≤ 1048576) : ∃ b, Ev (fun k => aC_.f k m) b ∧ Ev (fun k => aj_.f k m) b ∧ (b = true → m.length ≤ 32 ∧ m.Pairwise lessB) := by
 obtain ⟨b, hb⟩ := validBS_ev m hl hw
 refine ⟨b, ⟨4000001, fun k hk => (hb k (by omega)).1⟩, ⟨4000001, fun k hk => (hb k (by omega)).2⟩, fun h => ?_⟩
 subst h
 have h1 := (hb 4000001 (by omega)).1
 simp only [aC_.f] at h1
 obtain ⟨a1, a2⟩ := ok_loop m hl m.length 0 4000001 (by omega) h1
 exact ⟨a1, pw_of m (fun i hi => a2 (i + 1) (by omega) (by omega) hi)⟩
def finB (l : List Blk) : List Blk × Int := if (l.length : Int) > 32 then ([], 5) else (l, 0)
theorem merge_ev (a b : List Blk) (ha : (a.length : Int) ≤ 1048576) (hb : (b.length : Int) ≤ 1048576) (wa : ∀ y ∈ a, (y.f2.size : Int) ≤ 1048576) (wb : ∀ y ∈ b, (y.f2.size : Int) ≤ 1048576) : ∃ r c, r.length ≤ 1048576 ∧ Ev (fun k => as_.f k a b) (r, c) ∧ Ev (fun k => aq_.f k a b) (r, c) := by
 obtain ⟨oa, a1, a2, a3⟩ := okpw_ev a ha wa
 cases oa with
 | false =>
  refine ⟨[], 1, by simp, ?_, ?_⟩
  ·simp only [as_.f]; refine Ev_b a1 (Ev_f (by decide) (bm_ ?_)); simp only [as_.j0]; exact Ev_t (by first | exact True.intro | rfl) (Ev_n rfl)
  ·simp only [aq_.f]; refine Ev_b a2 (Ev_f (by decide) (bm_ ?_)); simp only [aq_.j0]; exact Ev_t (by first | exact True.intro | rfl) (Ev_n rfl)
 | true =>
  obtain ⟨ob, b1, b2, b3⟩ := okpw_ev b hb wb
  cases ob with
  | false =>
   refine ⟨[], 1, by simp, ?_, ?_⟩
   ·simp only [as_.f]; refine Ev_b a1 (Ev_t rfl (Ev_b b1 (bm_ ?_))); simp only [as_.j0]; exact Ev_t rfl (Ev_n rfl)
   ·simp only [aq_.f]; refine Ev_b a2 (Ev_t rfl (Ev_b b2 (bm_ ?_))); simp only [aq_.j0]; exact Ev_t rfl (Ev_n rfl)
  | true =>
   obtain ⟨la, pa⟩ := a3 rfl
   obtain ⟨lb, pb⟩ := b3 rfl
   have fin_s : ∀ l : List Blk, Ev (fun _ => if (l.length : Int) > 32 then some (([] : List Blk), (5 : Int)) else some (l, 0)) (finB l) := by
    intro l
    unfold finB
    by_cases h : (l.length : Int) > 32
    rotate_left
    ·exact Ev_f h (Ev_n (by rw [if_neg h]))
    exact Ev_t h (Ev_n (by rw [if_pos h]))
   have sp : ∀ (d i : Nat) (out : List Blk), i + d = b.length → out.Pairwise lessB → out.length ≤ 32 + i → Ev (fun k => as_.l0 k b out i) (finB ((b.drop i).foldl putB out)) := by
    intro d
    induction d with
    | zero =>
     intro i out h1 h2 h3
     refine bm_ ?_
     simp only [as_.l0]
     rw [List.drop_of_length_le (by omega)]
     exact Ev_f (by omega) (fin_s out)
    | succ d ih =>
     intro i out h1 h2 h3
     have hi : i < b.length := by omega
     refine bm_ ?_
     simp only [as_.l0]
     rw [bL_ b i hi, wr64s i (by omega), List.drop_eq_getElem_cons hi, List.foldl_cons]
     have := put_len out b[i]
     exact Ev_t (by omega) (Ev_t (by omega) (Ev_b (put_ev out (by omega) b[i] (rsg_pw h2 _)) (ih (i + 1) _ (by omega) (put_pw h2 _) (by omega))))
   have im : ∀ (d i : Nat) (out : List Blk), i + d = a.length → out.Pairwise lessB → out.length ≤ 32 + i → Ev (fun k => aq_.l0 k out a (a.length : Int) i) (finB ((a.drop i).foldl insB out)) := by
    intro d
    induction d with
    | zero =>
     intro i out h1 h2 h3
     refine bm_ ?_
     simp only [aq_.l0]
     rw [List.drop_of_length_le (by omega)]
     exact Ev_f (by omega) (fin_s out)
    | succ d ih =>
     intro i out h1 h2 h3
     have hi : i < a.length := by omega
     have f2 : Ev (fun k => ap_.f k out a[i].f0 a[i].f1 a[i].f2) (((plc (fun x => cB (ckB x) (ckB a[i])) out : Nat) : Int), fnd (fun x => cB (ckB x) (ckB a[i])) out) := bs_ev out (by omega) a[i].f0 a[i].f1 a[i].f2 (rsg_pw h2 _)
     refine bm_ ?_
     simp only [aq_.l0]
     rw [bL_ a i hi, wr64s i (by omega), List.drop_eq_getElem_cons hi, List.foldl_cons]
     refine Ev_t (by omega) (Ev_t (by omega) (Ev_t (by omega) (Ev_b f2 ?_)))
     have hpl := plc_le (fun x => cB (ckB x) (ckB a[i])) out
     cases hf : fnd (fun x => cB (ckB x) (ckB a[i])) out with
     | true =>
      have e : insB out a[i] = out := by unfold insB; rw [if_pos hf]
      rw [e]
      exact Ev_t rfl (ih (i + 1) out (by omega) h2 (by omega))
     | false =>
      have e : insB out a[i] = putB out a[i] := by unfold insB; rw [if_neg (by rw [hf]; decide)]
      have e2 : putB out a[i] = out.take (plc (fun x => cB (ckB x) (ckB a[i])) out) ++ a[i] :: out.drop (plc (fun x => cB (ckB x) (ckB a[i])) out) := by unfold putB; rw [if_neg (by rw [hf]; decide)]
      have := put_len out a[i]
      rw [e]
      refine Ev_f (by simp) (Ev_b (a := putB out a[i]) (Ev_c ?_) (ih (i + 1) _ (by omega) (put_pw h2 _) (by omega)))
      unfold bK_.f
      simp only
      rw [if_pos ⟨by omega, by omega, by omega⟩, Int.toNat_natCast, e2, List.append_assoc]
      rfl
   have r1 := sp b.length 0 a (by omega) pa (by omega)
   have r2 := im a.length 0 b (by omega) pb (by omega)
   rw [List.drop_zero] at r1 r2
   rw [← merged_eq a b pa pb] at r2
   refine ⟨(finB (b.foldl putB a)).1, (finB (b.foldl putB a)).2, ?_, ?_, ?_⟩
   ·unfold finB; split <;> simp; omega
   ·simp only [as_.f]
    refine Ev_b a1 (Ev_t rfl (Ev_b b1 (bm_ ?_)))
    simp only [as_.j0]
    refine Ev_f (by decide) (Ev_s (Ev_t (by simp; omega) ?_))
    rw [List.nil_append]
    exact r1
   ·simp only [aq_.f]
    refine Ev_b a2 (Ev_t rfl (Ev_b b2 (bm_ ?_)))
    simp only [aq_.j0]
    refine Ev_f (by decide) (Ev_b (a := b) (Ev_c (by unfold br_.f; rw [if_pos (by omega)])) ?_)
    exact r2
def u8s (c : List Int) : Prop := (c.length : Int) ≤ 1048576 ∧ ∀ x ∈ c, 0 ≤ x ∧ x < 256
theorem u64w (n : Int) : IntKind.u64.wrap n = n % 18446744073709551616 := by simp [IntKind.wrap, IntKind.bits, IntKind.signed]
theorem p64 : (2 : Int) ^ 64 = 18446744073709551616 := by decide
theorem u64wr (n : Int) (h0 : 0 ≤ n) (h1 : n < 2 ^ 64) : IntKind.u64.wrap n = n := by
 rw [p64] at h1
 rw [u64w]
 omega
theorem and255 (x : Int) (h : 0 ≤ x) (h2 : x < 18446744073709551616) : Go.bits .and .u64 x 255 = x % 256 := by
 have h3 : x < 2 ^ 64 := by rw [p64]; exact h2
 exact bits_mask .u64 64 (by decide) u64wr 8 (by decide) x h h3
theorem high_byte (z : Int) : 0 ≤ wrap64 (Go.bits .and .u64 (IntKind.u64.wrap z / 1099511627776) 255) ∧ wrap64 (Go.bits .and .u64 (IntKind.u64.wrap z / 1099511627776) 255) < 256 := by
 rw [u64w, and255 _ (by omega) (by omega), wr64 (by omega) (by omega)]
 omega
theorem next_ok (c : List Int) (hc : u8s c) (a s : Int) (h0 : 0 ≤ a) (h1 : a < 4611686018427387904) : ∃ v s', bE_.f c a s = some (v, a + 1, s') ∧ 0 ≤ v ∧ v < 256 := by
 have ha : wrap64 (a + 1) = a + 1 := wr64 (by omega) (by omega)
 unfold bE_.f
 rw [ha]
 by_cases c1 : a < (c.length : Int)
 rotate_left
 ·rw [if_neg c1]
  rw [if_neg (by omega)]
  have hb := high_byte ((IntKind.u64.wrap ((IntKind.u64.wrap (s * 6364136223846793005)))) + 1442695040888963407)
  exact ⟨_, _, rfl, hb.1, hb.2⟩
 rw [if_pos c1, if_pos h0, if_pos (by omega)]
 have hv : 0 ≤ rd c a ∧ rd c a < 256 := by
  unfold rd
  have hi : a.toNat < c.length := by omega
  rw [List.getD_eq_getElem?_getD, List.getElem?_eq_getElem hi]
  exact hc.2 _ (List.getElem_mem hi)
 rw [wr64 (x := rd c a) (by omega) (by omega)]
 exact ⟨_, _, rfl, hv.1, hv.2⟩
theorem cz_ (c : List Int) (hc : u8s c) (a s n : Int) (h0 : 0 ≤ a) (h1 : a < 4611686018427387000) (hn : n < 65536) : ∃ v a' s', ai_.f c a s n = some (v, a', s') ∧ a ≤ a' ∧ a' ≤ a + 2 ∧ 0 ≤ v ∧ (0 < n → v < n) := by
 unfold ai_.f
 by_cases c1 : n ≤ 1
 rotate_left
 ·rw [if_neg c1]
  obtain ⟨v, s1, e1, v0, v1⟩ := next_ok c hc a s h0 (by omega)
  rw [e1]
  simp only [Option.bind_some]
  by_cases c2 : n > 200
  rotate_left
  ·rw [if_neg c2, if_neg (by omega)]
   refine ⟨_, _, _, rfl, by omega, by omega, Int.tmod_nonneg _ (by omega), fun _ => Int.tmod_lt_of_pos _ (by omega)⟩
  rw [if_pos c2]
  obtain ⟨v2, s2, e2, w0, w1⟩ := next_ok c hc (a + 1) s1 (by omega) (by omega)
  rw [e2]
  simp only [Option.bind_some]
  rw [if_neg (by omega), wr64 (x := v * 256) (by omega) (by omega), wr64 (by omega) (by omega)]
  refine ⟨_, _, _, rfl, by omega, by omega, Int.tmod_nonneg _ (by omega), fun _ => Int.tmod_lt_of_pos _ (by omega)⟩
 rw [if_pos c1]; exact ⟨0, a, s, rfl, by omega, by omega, by omega, by omega⟩
theorem text_ok (c : List Int) (hc : u8s c) (a s : Int) (l : List ByteArray) (h0 : 0 ≤ a) (h1 : a < 4611686018427387000) (hl : 0 < l.length) (hl2 : (l.length : Int) < 65536) : ∃ v a' s', aL_.f c a s l = some (v, a', s') ∧ a ≤ a' ∧ a' ≤ a + 2 ∧ v ∈ l := by
 unfold aL_.f
 obtain ⟨v, a', s', e, h2, h3, v0, v1⟩ := cz_ c hc a s (l.length : Int) h0 h1 hl2
 have hv := v1 (by omega)
 rw [e]
 simp only [Option.bind_some]
 rw [if_pos v0, if_pos hv]
 refine ⟨_, _, _, rfl, h2, h3, ?_⟩
 unfold rdOf
 have hi : v.toNat < l.length := by omega
 rw [List.getD_eq_getElem?_getD, List.getElem?_eq_getElem hi]
 exact List.getElem_mem hi
theorem among_ok (c : List Int) (hc : u8s c) (a s : Int) (l : List Int) (h0 : 0 ≤ a) (h1 : a < 4611686018427387000) (hl : 0 < l.length) (hl2 : (l.length : Int) < 65536) : ∃ v a' s', bV_.f c a s l = some (v, a', s') ∧ a ≤ a' ∧ a' ≤ a + 2 ∧ v ∈ l := by
 unfold bV_.f
 obtain ⟨v, a', s', e, h2, h3, v0, v1⟩ := cz_ c hc a s (l.length : Int) h0 h1 hl2
 have hv := v1 (by omega)
 rw [e]
 simp only [Option.bind_some]
 rw [if_pos v0, if_pos hv]
 refine ⟨_, _, _, rfl, h2, h3, ?_⟩
 unfold rd
 have hi : v.toNat < l.length := by omega
 rw [List.getD_eq_getElem?_getD, List.getElem?_eq_getElem hi]
 exact List.getElem_mem hi
theorem one_ok (c : List Int) (hc : u8s c) (a s n : Int) (h0 : 0 ≤ a) (h1 : a < 4611686018427387000) (hn : n < 65536) : ∃ v a' s', bz_.f c a s n = some (v, a', s') ∧ a ≤ a' ∧ a' ≤ a + 2 := by
 unfold bz_.f
 obtain ⟨v, a', s', e, h2, h3, v0, v1⟩ := cz_ c hc a s n h0 h1 hn
 rw [e]
 exact ⟨_, _, _, rfl, h2, h3⟩
theorem strOf_size (l : List Int) : (strOfNums l).size = l.length := by
 unfold strOfNums
 show (List.toArray _).size = _
 simp
theorem word_loop (c : List Int) (hc : u8s c) : ∀ (n : Nat) (x : List Int) (a s : Int), n < 60000 → x.length + n ≤ 60000 → 0 ≤ a → a + n < 4611686018427387000 → ∃ v a' s', Ev (fun k => aM_.l0 k x n c a s) (v, a', s') ∧ a ≤ a' ∧ a' ≤ a + n ∧ v.size = x.length + n
 | 0, x, a, s, _, _, _, _ => ⟨strOfNums x, a, s, by refine bm_ ?_; simp only [aM_.l0]; exact Ev_f (by simp) (Ev_n rfl), by omega, by omega, by rw [strOf_size]; rfl⟩
 | n + 1, x, a, s, hn, hx, h0, h1 => by
  obtain ⟨v, s1, e1, v0, v1⟩ := next_ok c hc a s h0 (by omega)
  obtain ⟨v2, a', s', h2, h3, h4, h5⟩ := word_loop c hc n (x ++ [v % 256]) (a + 1) s1 (by omega) (by simp; omega) (by omega) (by omega)
  refine ⟨v2, a', s', ?_, by omega, by omega, by rw [h5]; simp; omega⟩
  refine bm_ ?_
  simp only [aM_.l0]
  refine Ev_t (by omega) (Ev_b (Ev_c e1) (Ev_t (by omega) ?_))
  rw [wr64 (by omega) (by omega), show (((n + 1 : Nat) : Int) - 1) = (n : Int) by omega]
  exact h2
theorem word_ok (c : List Int) (hc : u8s c) (a s n : Int) (h0 : 0 ≤ a) (h1 : a < 4611686018427300000) (hn : n < 60000) (hn0 : 0 < n) : ∃ v a' s', Ev (fun k => aM_.f k c a s n) (v, a', s') ∧ a ≤ a' ∧ a' ≤ a + 2 + n ∧ (v.size : Int) < n := by
 obtain ⟨v, a1, s1, e, h2, h3, v0, v1⟩ := cz_ c hc a s n h0 (by omega) (by omega)
 have hv := v1 hn0
 obtain ⟨v2, a', s', h4, h5, h6, h7⟩ := word_loop c hc v.toNat [] a1 s1 (by omega) (by simp; omega) (by omega) (by omega)
 refine ⟨v2, a', s', ?_, by omega, by omega, by rw [h7]; simp; omega⟩
 unfold aM_.f
 refine Ev_b (Ev_c e) ?_
 simp only []
 rw [show v = ((v.toNat : Nat) : Int) by omega]
 exact h4
def spi (l : List UInt8) : Int := if l = [97, 115, 104] then 0 else if l = [98, 101, 101, 99, 104] then 1 else if l = [98, 105, 114, 99, 104] then 2 else if l = [99, 104, 101, 114, 114, 121] then 3 else if l = [101, 98, 111, 110, 121] then 4 else if l = [104, 111, 108, 108, 121] then 5 else if l = [109, 97, 112, 108, 101] then 6 else if l = [111, 97, 107] then 7 else if l = [114, 111, 115, 101, 119, 111, 111, 100] then 8 else if l = [119, 97, 108, 110, 117, 116] then 9 else -1
def shades : List Int := [20, 35, 15, 50, 95, 5, 10, 40, 80, 70]
def vVen (l : List UInt8) (sh gr : Int) : Bool := decide (0 ≤ spi l) && ((decide (0 ≤ sh) && decide (sh ≤ 100)) && ((decide (rd shades (spi l) - 15 ≤ sh) && decide (sh ≤ rd shades (spi l) + 15)) && (decide (0 ≤ gr) && decide (gr ≤ 179))))
theorem shade_of (i : Int) (h0 : 0 ≤ i) (h1 : i ≤ 9) : ∃ t, cB_.f = some t ∧ i < t.length ∧ 0 < (rd_L6 t i).length ∧ rd (rd_L6 t i) 0 = rd shades i ∧ 0 ≤ rd shades i ∧ rd shades i ≤ 100 := by
 refine ⟨_, rfl, ?_⟩
 obtain ⟨n, rfl⟩ := Int.eq_ofNat_of_zero_le h0
 have hn : n ≤ 9 := by omega
 match n, hn with
 | 0, _ => decide
 | 1, _ => decide
 | 2, _ => decide
 | 3, _ => decide
 | 4, _ => decide
 | 5, _ => decide
 | 6, _ => decide
 | 7, _ => decide
 | 8, _ => decide
 | 9, _ => decide
theorem max_f (a b : Int) : ∃ v, cm_.f a b = some v ∧ ((a ≤ b ∧ v = b) ∨ (b ≤ a ∧ v = a)) := by
 unfold cm_.f
 by_cases h : a > b
 rotate_left
 ·rw [if_neg h]; exact ⟨b, rfl, Or.inl ⟨by omega, rfl⟩⟩
 rw [if_pos h]; exact ⟨a, rfl, Or.inr ⟨by omega, rfl⟩⟩
theorem min_f (a b : Int) : ∃ v, bR_.f a b = some v ∧ ((a ≤ b ∧ v = a) ∨ (b ≤ a ∧ v = b)) := by
 unfold bR_.f
 by_cases h : a < b
 rotate_left
 ·rw [if_neg h]; exact ⟨b, rfl, Or.inr ⟨by omega, rfl⟩⟩
 rw [if_pos h]; exact ⟨a, rfl, Or.inl ⟨by omega, rfl⟩⟩
theorem name_of (i : Int) (h0 : 0 ≤ i) (h1 : i ≤ 9) : ∃ t, cj_.f = some t ∧ i < t.length ∧ spi (rdOf ByteArray.empty t i).toList = i ∧ (rdOf ByteArray.empty t i).size ≤ 8 := by
 unfold cj_.f
 have hi : i = 0 ∨ i = 1 ∨ i = 2 ∨ i = 3 ∨ i = 4 ∨ i = 5 ∨ i = 6 ∨ i = 7 ∨ i = 8 ∨ i = 9 := by omega
 rcases hi with rfl | rfl | rfl | rfl | rfl | rfl | rfl | rfl | rfl | rfl <;> exact ⟨_, rfl, by decide, by decide +kernel, by decide +kernel⟩
theorem l07Draw_ok (c : List Int) (hc : u8s c) (a s : Int) (h0 : 0 ≤ a) (h1 : a < 4611686018427380000) : ∃ n sh g a' s', bc_.f c a s = some (n, sh, g, a', s') ∧ a ≤ a' ∧ a' ≤ a + 8 ∧ n.size ≤ 8 ∧ vVen n.toList sh g = true := by
 obtain ⟨k, a1, s1, e1, p1, q1, k0, k1⟩ := cz_ c hc a s 10 h0 (by omega) (by omega)
 have hk := k1 (by omega)
 obtain ⟨t, et, t1, t2, t3, t4, t5⟩ := shade_of k k0 (by omega)
 obtain ⟨m, em, m1, m2, m3⟩ := name_of k k0 (by omega)
 obtain ⟨d, a2, s2, e2, p2, q2, d0, d1⟩ := cz_ c hc a1 s1 21 (by omega) (by omega) (by omega)
 have hd := d1 (by omega)
 obtain ⟨g, a3, s3, e3, p3, q3, g0, g1⟩ := cz_ c hc a2 s2 180 (by omega) (by omega) (by omega)
 have hg := g1 (by omega)
 obtain ⟨r, a4, s4, e4, p4, q4, hr⟩ := among_ok c hc a3 s3 [g, g, 0, 90, 45] (by omega) (by omega) (by simp) (by simp)
 obtain ⟨x, ex, hx⟩ := max_f 0 (wrap64 (wrap64 (rd (rd_L6 t k) 0 + d) - 10))
 obtain ⟨y, ey, hy⟩ := min_f 100 x
 have w1 : wrap64 (wrap64 (rd (rd_L6 t k) 0 + d) - 10) = rd shades k + d - 10 := by rw [t3, wr64 (x := rd shades k + d) (by omega) (by omega), wr64 (by omega) (by omega)]
 rw [w1] at hx
 refine ⟨rdOf ByteArray.empty m k, y, r, a4, s4, ?_, by omega, by omega, m3, ?_⟩
 ·unfold bc_.f
  rw [e1]
  simp only [Option.bind_some]
  rw [et]
  simp only [Option.bind_some]
  rw [if_pos k0, if_pos t1, if_pos (by omega), e2]
  simp only [Option.bind_some]
  rw [em]
  simp only [Option.bind_some]
  rw [if_pos m1, ex]
  simp only [Option.bind_some]
  rw [ey]
  simp only [Option.bind_some]
  rw [e3]
  simp only [Option.bind_some]
  rw [e4]
  rfl
 ·have hr2 : 0 ≤ r ∧ r ≤ 179 := by
   simp only [List.mem_cons, List.not_mem_nil, or_false] at hr
   omega
  unfold vVen
  rw [m2]
  simp only [Bool.and_eq_true, decide_eq_true_eq]
  omega
def dbox (b : S99) (w h : Int) : Prop := 0 ≤ b.f0 ∧ 0 ≤ b.f1 ∧ 1 ≤ b.f2 ∧ 1 ≤ b.f3 ∧ b.f0 + b.f2 ≤ w ∧ b.f1 + b.f3 ≤ h
theorem box_draw (c : List Int) (hc : u8s c) (a s w h : Int) (h0 : 0 ≤ a) (h1 : a < 4611686018427380000) (hw : 100 ≤ w ∧ w < 1000) (hh : 100 ≤ h ∧ h < 1000) : ∃ x y p q a' s', cp_.f c a s w h = some (x, y, p, q, a', s') ∧ a ≤ a' ∧ a' ≤ a + 8 ∧ dbox (⟨x, y, p, q⟩ : S99) w h := by
 obtain ⟨x, a1, s1, e1, p1, q1, x0, x1⟩ := cz_ c hc a s (w - 2) h0 (by omega) (by omega)
 have hx := x1 (by omega)
 obtain ⟨y, a2, s2, e2, p2, q2, y0, y1⟩ := cz_ c hc a1 s1 (h - 2) (by omega) (by omega) (by omega)
 have hy := y1 (by omega)
 obtain ⟨m, em, hm⟩ := min_f 60 (w - x)
 obtain ⟨p, a3, s3, e3, p3, q3, z0, z1⟩ := cz_ c hc a2 s2 m (by omega) (by omega) (by omega)
 have hp := z1 (by omega)
 obtain ⟨n, en, hn⟩ := min_f 60 (h - y)
 obtain ⟨q, a4, s4, e4, p4, q4, u0, u1⟩ := cz_ c hc a3 s3 n (by omega) (by omega) (by omega)
 have hq := u1 (by omega)
 refine ⟨x, y, 1 + p, 1 + q, a4, s4, ?_, by omega, by omega, by unfold dbox; dsimp only; omega⟩
 unfold cp_.f
 rw [wr64 (x := w - 2) (by omega) (by omega), wr64 (x := h - 2) (by omega) (by omega), e1]
 simp only [Option.bind_some]
 rw [e2]
 simp only [Option.bind_some]
 rw [wr64 (x := w - x) (by omega) (by omega), em]
 simp only [Option.bind_some]
 rw [e3]
 simp only [Option.bind_some]
 rw [wr64 (x := h - y) (by omega) (by omega), en]
 simp only [Option.bind_some]
 rw [e4]
 simp only [Option.bind_some]
 rw [wr64 (x := 1 + p) (by omega) (by omega), wr64 (x := 1 + q) (by omega) (by omega)]
theorem boxes_loop (c : List Int) (hc : u8s c) (id fl nm : ByteArray) (nu sh g w h : Int) (hw : 100 ≤ w ∧ w < 1000) (hh : 100 ≤ h ∧ h < 1000) : ∀ (n : Nat) (a s : Int) (bs : List S99), bs.length + n ≤ 3 → 0 ≤ a → a + 8 * n < 4611686018427380000 → (∀ b ∈ bs, dbox b w h) →
  ∃ bs' a' s', Ev (fun k => aG_.l0 k n c a s id fl nu nm sh g w h bs) (id, fl, nu, nm, sh, g, w, h, bs', a', s') ∧ a ≤ a' ∧ a' ≤ a + 8 * n ∧ bs'.length ≤ 3 ∧ ∀ b ∈ bs', dbox b w h
 | 0, a, s, bs, hl, h0, h1, hb => ⟨bs, a, s, by refine bm_ ?_; simp only [aG_.l0]; exact Ev_f (by simp) (Ev_n rfl), by omega, by omega, by omega, hb⟩
 | n + 1, a, s, bs, hl, h0, h1, hb => by
  obtain ⟨x, y, p, q, a1, s1, e1, p1, q1, hd⟩ := box_draw c hc a s w h h0 (by omega) hw hh
  obtain ⟨bs', a', s', h2, h3, h4, h5, h6⟩ := boxes_loop c hc id fl nm nu sh g w h hw hh n a1 s1 (bs ++ [(⟨x, y, p, q⟩ : S99)]) (by simp; omega) (by omega) (by omega) (by
   intro b hb2
   rcases List.mem_append.1 hb2 with g | g
   ·exact hb b g
   ·rw [List.mem_singleton.1 g]; exact hd)
  refine ⟨bs', a', s', ?_, by omega, by omega, h5, h6⟩
  refine bm_ ?_
  simp only [aG_.l0]
  refine Ev_t (by omega) (Ev_b (Ev_c e1) (Ev_t (by omega) ?_))
  rw [wr64 (by omega) (by omega), show (((n + 1 : Nat) : Int) - 1) = (n : Int) by omega]
  exact h2
def dleaf (x : S90) : Prop := x.f1.size = 2 ∧ (x.f1 = (⟨#[102, 49]⟩ : ByteArray) ∨ x.f1 = (⟨#[102, 50]⟩ : ByteArray)) ∧ (0 ≤ x.f2 ∧ x.f2 < 20) ∧ x.f3.f0.size ≤ 8 ∧ vVen x.f3.f0.toList x.f3.f1 x.f3.f2 = true ∧ (100 ≤ x.f4 ∧ x.f4 < 1000) ∧ (100 ≤ x.f5 ∧ x.f5 < 1000) ∧ x.f6.length ≤ 3 ∧ ∀ b ∈ x.f6, dbox b x.f4 x.f5
theorem leaf_draw (c : List Int) (hc : u8s c) (a s : Int) (id : ByteArray) (h0 : 0 ≤ a) (h1 : a < 4611686018427300000) : ∃ (x : S90) (a' s' : Int), Ev (fun k => aG_.f k c a s id) (x.f0, x.f1, x.f2, x.f3.f0, x.f3.f1, x.f3.f2, x.f4, x.f5, x.f6, a', s') ∧ a ≤ a' ∧ a' ≤ a + 50 ∧ x.f0 = id ∧ dleaf x := by
 obtain ⟨fl, a1, s1, e1, p1, q1, hf⟩ := text_ok c hc a s [(⟨#[102, 49]⟩ : ByteArray), (⟨#[102, 50]⟩ : ByteArray)] h0 (by omega) (by simp) (by simp)
 obtain ⟨nu, a2, s2, e2, p2, q2, n0, n1⟩ := cz_ c hc a1 s1 20 (by omega) (by omega) (by omega)
 have hn := n1 (by omega)
 obtain ⟨nm, sh, g, a3, s3, e3, p3, q3, z3, hv⟩ := l07Draw_ok c hc a2 s2 (by omega) (by omega)
 obtain ⟨w, a4, s4, e4, p4, q4, w0, w1⟩ := cz_ c hc a3 s3 900 (by omega) (by omega) (by omega)
 have hw := w1 (by omega)
 obtain ⟨h, a5, s5, e5, p5, q5, v0, v1⟩ := cz_ c hc a4 s4 900 (by omega) (by omega) (by omega)
 have hh := v1 (by omega)
 obtain ⟨n, a6, s6, e6, p6, q6, m0, m1⟩ := cz_ c hc a5 s5 4 (by omega) (by omega) (by omega)
 have hm := m1 (by omega)
 obtain ⟨bs, a7, s7, h7, p7, q7, l7, b7⟩ := boxes_loop c hc id fl nm nu sh g (100 + w) (100 + h) (by omega) (by omega) n.toNat a6 s6 [] (by simp; omega) (by omega) (by omega) (by simp)
 refine ⟨(⟨id, fl, nu, (⟨nm, sh, g⟩ : S87), 100 + w, 100 + h, bs⟩ : S90), a7, s7, ?_, by omega, by omega, rfl, ?_⟩
 ·simp only [aG_.f]
  refine Ev_b (Ev_c e1) (Ev_b (Ev_c e2) (Ev_b (Ev_c e3) (Ev_b (Ev_c e4) (Ev_b (Ev_c e5) (Ev_b (Ev_c e6) ?_)))))
  dsimp only
  rw [wr64 (x := 100 + w) (by omega) (by omega), wr64 (x := 100 + h) (by omega) (by omega)]
  have hn2 : ((n.toNat : Nat) : Int) = n := by omega
  rw [hn2] at h7
  exact h7
 ·simp only [List.mem_cons, List.not_mem_nil, or_false] at hf
  unfold dleaf
  refine ⟨?_, hf, ⟨n0, hn⟩, z3, hv, ⟨by dsimp only; omega, by dsimp only; omega⟩, ⟨by dsimp only; omega, by dsimp only; omega⟩, l7, b7⟩
  rcases hf with rfl | rfl <;> rfl
abbrev Bs (l : List UInt8) : ByteArray := ⟨l.toArray⟩
theorem Bs_app (a b : List UInt8) : Bs a ++ Bs b = Bs (a ++ b) := by
 apply ByteArray.ext
 simp
theorem Bs_size (l : List UInt8) : (Bs l).size = l.length := by simp [ByteArray.size]
def digs (u : Nat) : List Int := if h : u = 0 then [] else (48 + (u % 10 : Nat) : Int) :: digs (u / 10)
termination_by u
decreasing_by omega
theorem digs_zero : digs 0 = [] := by rw [digs, dif_pos rfl]
theorem digs_pos {u : Nat} (h : u ≠ 0) : digs u = (48 + (u % 10 : Nat) : Int) :: digs (u / 10) := by rw [digs, dif_neg h]
theorem digs_dec (u : Nat) (h : u ≠ 0) : (digs u).reverse.map (fun n => UInt8.ofNat n.toNat) = Go.Lib.decDigits u := by
 induction u using Nat.strongRecOn with
 | _ u ih =>
  rw [digs_pos h, Go.Lib.decDigits]
  by_cases h10 : u < 10
  rotate_left
  ·rw [dif_neg h10, List.reverse_cons, List.map_append, ih (u / 10) (by omega) (by omega)]
   simp only [List.map_cons, List.map_nil]
   rw [show (48 + ((u % 10 : Nat) : Int)).toNat = 48 + u % 10 by omega]
  rw [dif_pos h10, show u / 10 = 0 by omega, digs_zero, Nat.mod_eq_of_lt h10]
  simp only [List.reverse_cons, List.reverse_nil, List.nil_append, List.map_cons, List.map_nil]
  rw [show (48 + (u : Int)).toNat = 48 + u by omega]
def its (n : Int) : ByteArray := Bs (Go.Lib.itoa n)
theorem rev_ev (x3 : List Int) (hl : x3.length ≤ 1000) : ∀ (j : Nat) (x6 : List Int), j ≤ x3.length → x6.length + j ≤ 1000 → Ev (fun k => aw_.l1 k x3 x6 ((j : Int) - 1)) (strOfNums (x6 ++ (x3.take j).reverse))
 | 0, x6, _, _ => by
  refine bm_ ?_
  simp only [aw_.l1]
  exact Ev_f (by omega) (Ev_n (by simp))
 | j + 1, x6, h, h2 => by
  refine bm_ ?_
  simp only [aw_.l1]
  have e : ((j + 1 : Nat) : Int) - 1 = (j : Int) := by omega
  rw [e]
  refine Ev_t (by omega) (Ev_t (by omega) (Ev_t (by omega) (Ev_t (by omega) ?_)))
  rw [wr64 (x := (j : Int) - 1) (by omega) (by omega)]
  have hr : rd x3 (j : Int) = x3[j] := by unfold rd; exact getD_in x3 _ j (by omega)
  have := rev_ev x3 hl j (x6 ++ [rd x3 (j : Int)]) (by omega) (by simp; omega)
  refine Ev_at this ?_
  rw [hr, List.take_succ_eq_append_getElem (by omega), List.reverse_append]
  simp
theorem dec_loop (n0 : Int) : ∀ (d u : Nat) (x3 : List Int) (m : Int), u < 10 ^ d → d ≤ 19 → x3.length + d ≤ 30 → m = (if n0 < 0 then -(u : Int) else (u : Int)) → Ev (fun k => aw_.l0 k n0 x3 m) (strOfNums ((x3 ++ digs u ++ (if n0 < 0 then [45] else [])).reverse)) := by
 have fin : ∀ (x : List Int), x.length ≤ 100 → Ev (fun k => aw_.j1 k x) (strOfNums x.reverse) := fun x hx => by
  refine bm_ ?_
  simp only [aw_.j1]
  rw [wr64 (x := (x.length : Int) - 1) (by omega) (by omega)]
  have := rev_ev x (by omega) x.length [] (Nat.le_refl _) (by simp; omega)
  simpa using this
 have stop : ∀ (x3 : List Int), x3.length ≤ 50 → Ev (fun k => aw_.l0 k n0 x3 0) (strOfNums ((x3 ++ (if n0 < 0 then [45] else [])).reverse)) := fun x3 h => by
  refine bm_ ?_
  simp only [aw_.l0]
  refine Ev_t (by simp) ?_
  by_cases c : n0 < 0
  rotate_left
  ·rw [if_neg c, List.append_nil]
   exact Ev_f c (fin _ (by omega))
  rw [if_pos c]
  exact Ev_t c (Ev_t (by omega) (fin _ (by simp; omega)))
 intro d
 induction d with
 | zero =>
  intro u x3 m hu hd hl hm
  have : u = 0 := by simpa using hu
  subst this
  have hm0 : m = 0 := by rw [hm]; split <;> rfl
  subst hm0
  rw [digs_zero, List.append_nil]
  exact stop x3 (by omega)
 | succ d ih =>
  intro u x3 m hu hd hl hm
  by_cases h0 : u = 0
  rotate_left
  ·have hu2 : u / 10 < 10 ^ d := by rw [Nat.pow_succ] at hu; omega
   have hbig : u < 10000000000000000000 := Nat.lt_of_lt_of_le hu (Nat.le_trans (Nat.pow_le_pow_right (by decide) hd) (by decide))
   refine bm_ ?_
   simp only [aw_.l0]
   have step := ih (u / 10) (x3 ++ [48 + ((u % 10 : Nat) : Int)]) (if n0 < 0 then -((u / 10 : Nat) : Int) else ((u / 10 : Nat) : Int)) hu2 (by omega) (by simp; omega) rfl
   rw [List.append_assoc x3, List.singleton_append, ← digs_pos h0] at step
   by_cases c : n0 < 0
   rotate_left
   ·rw [if_neg c] at hm step
    subst hm
    have e1 : Int.tmod (u : Int) 10 = ((u % 10 : Nat) : Int) := by rw [Int.tmod_eq_emod_of_nonneg (by omega)]; omega
    have e2 : Int.tdiv (u : Int) 10 = ((u / 10 : Nat) : Int) := by rw [Int.tdiv_eq_ediv_of_nonneg (by omega)]; omega
    refine Ev_f (by omega) ?_
    rw [e1, e2, wr64 (x := ((u / 10 : Nat) : Int)) (by omega) (by omega)]
    refine Ev_f (by omega) (Ev_t (by omega) ?_)
    rw [wr64 (x := 48 + ((u % 10 : Nat) : Int)) (by omega) (by omega), show (48 + ((u % 10 : Nat) : Int)) % 256 = 48 + ((u % 10 : Nat) : Int) by omega]
    exact step
   rw [if_pos c] at hm step
   subst hm
   have e1 : Int.tmod (-(u : Int)) 10 = -((u % 10 : Nat) : Int) := by rw [Int.neg_tmod, Int.tmod_eq_emod_of_nonneg (by omega)]; omega
   have e2 : Int.tdiv (-(u : Int)) 10 = -((u / 10 : Nat) : Int) := by rw [Int.neg_tdiv, Int.tdiv_eq_ediv_of_nonneg (by omega)]; omega
   refine Ev_f (by omega) ?_
   rw [e1, e2, wr64 (x := -((u / 10 : Nat) : Int)) (by omega) (by omega)]
   by_cases cz : u % 10 = 0
   rotate_left
   ·refine Ev_t (by omega) (Ev_t (by omega) ?_)
    rw [wr64 (x := - -((u % 10 : Nat) : Int)) (by omega) (by omega), wr64 (x := 48 + - -((u % 10 : Nat) : Int)) (by omega) (by omega), show (48 + - -((u % 10 : Nat) : Int)) % 256 = 48 + ((u % 10 : Nat) : Int) by omega]
    exact step
   refine Ev_f (by omega) (Ev_t (by omega) ?_)
   rw [wr64 (x := 48 + -((u % 10 : Nat) : Int)) (by omega) (by omega), show (48 + -((u % 10 : Nat) : Int)) % 256 = 48 + ((u % 10 : Nat) : Int) by omega]
   exact step
  subst h0
  have hm0 : m = 0 := by rw [hm]; split <;> rfl
  subst hm0
  rw [digs_zero, List.append_nil]
  exact stop x3 (by omega)
theorem dec_ev (n : Int) (h0 : -9223372036854775808 ≤ n) (h1 : n ≤ 9223372036854775807) : Ev (fun k => aw_.f k n) (its n) := by
 simp only [aw_.f]
 by_cases c : n = 0
 rotate_left
 ·refine Ev_f c ?_
  have := dec_loop n 19 n.natAbs [] n (by rw [show (10 : Nat) ^ 19 = 10000000000000000000 by decide]; omega) (by omega) (by simp) (by split <;> omega)
  refine Ev_at this ?_
  rw [List.nil_append, List.reverse_append]
  have hd := digs_dec n.natAbs (by omega)
  unfold its Go.Lib.itoa strOfNums Bs
  by_cases cn : n < 0
  rotate_left
  ·rw [if_neg cn, if_neg cn, List.map_append, hd, show n.toNat = n.natAbs by omega]; rfl
  rw [if_pos cn, if_pos cn, List.map_append, hd]; rfl
 subst c
 refine Ev_t rfl (Ev_n ?_)
 unfold its Go.Lib.itoa
 rw [if_neg (by decide), Go.Lib.decDigits, dif_pos (by decide)]
 rfl
def icat : List (List UInt8) → List UInt8
 | [] => []
 | [x] => x
 | x :: y :: r => x ++ 44 :: icat (y :: r)
theorem icat_snoc (z : List UInt8) : ∀ xs, xs ≠ [] → icat (xs ++ [z]) = icat xs ++ 44 :: z
 | [], h => absurd rfl h
 | [x], _ => rfl
 | x :: y :: r, _ => by
  have := icat_snoc z (y :: r) (by simp)
  rw [List.cons_append, List.cons_append, icat, ← List.cons_append, this, icat]
  simp
theorem icat_len (n : Nat) : ∀ xs : List (List UInt8), (∀ x ∈ xs, x.length ≤ n) → (icat xs).length ≤ xs.length * (n + 1)
 | [], _ => by simp [icat]
 | [x], h => by
  have := h x (by simp)
  simp only [icat, List.length_cons, List.length_nil]
  omega
 | x :: y :: r, h => by
  have h1 := h x (by simp)
  have h2 := icat_len n (y :: r) (fun z hz => h z (List.mem_cons_of_mem _ hz))
  simp only [icat, List.length_append, List.length_cons] at h2 ⊢
  rw [Nat.add_mul (r.length + 1) 1]
  omega
def nmOk (x : Int) : Prop := -1000000000000 ≤ x ∧ x ≤ 1000000000000
def itl (l : List Int) : List (List UInt8) := l.map Go.Lib.itoa
def LT_ (l : List Int) : ByteArray := if l = [] then Bs [45] else Bs (icat (itl l))
theorem itoa_short (n : Int) (h : nmOk n) : (Go.Lib.itoa n).length ≤ 21 := Go.Lib.itoa_length_le n (by unfold nmOk at h; omega) (by unfold nmOk at h; omega)
theorem itl_len (l : List Int) (hl : l.length ≤ 64) (hb : ∀ x ∈ l, nmOk x) : (icat (itl l)).length ≤ 1408 := by
 have := icat_len 21 (itl l) (fun x hx => by
  obtain ⟨n, hn, rfl⟩ := List.mem_map.1 hx
  exact itoa_short n (hb n hn))
 have e : (itl l).length = l.length := by simp [itl]
 rw [e] at this
 omega
theorem its_size (n : Int) (h : nmOk n) : (its n).size ≤ 21 := by
 unfold its
 rw [Bs_size]
 exact itoa_short n h
theorem rdi_in (l : List Int) (i : Nat) (h : i < l.length) : rd l (i : Int) = l[i] := by unfold rd; exact getD_in l _ i h
theorem list_spec (l : List Int) (hl : l.length ≤ 64) (hb : ∀ x ∈ l, nmOk x) : Ev (fun k => bC_.f k l) (LT_ l) := by
 simp only [bC_.f]
 by_cases h0 : l = []
 ·subst h0
  exact Ev_t (by simp) (Ev_n rfl)
 have hn0 : l.length ≠ 0 := fun h => h0 (List.eq_nil_of_length_eq_zero h)
 refine Ev_f (by omega) ?_
 have go : ∀ (d i : Nat), i + d = l.length → Ev (fun k => bC_.l0 k l (Bs (icat (itl (l.take i)))) i) (LT_ l) := by
  intro d
  induction d with
  | zero =>
   intro i h
   refine bm_ ?_
   simp only [bC_.l0]
   refine Ev_f (by omega) (Ev_n ?_)
   unfold LT_
   rw [if_neg h0, List.take_of_length_le (by omega)]
  | succ d ih =>
   intro i h
   have hx := hb l[i] (List.getElem_mem _)
   have hx2 := hx
   unfold nmOk at hx2
   have hs := its_size l[i] hx
   have hlen := itl_len (l.take i) (by simp; omega) (fun x hx => hb x (List.mem_of_mem_take hx))
   have hd := dec_ev l[i] (by omega) (by omega)
   have e1 : itl (l.take (i + 1)) = itl (l.take i) ++ [Go.Lib.itoa l[i]] := by
    unfold itl
    rw [List.take_succ_eq_append_getElem (by omega), List.map_append]
    rfl
   refine bm_ ?_
   simp only [bC_.l0]
   rw [rdi_in l i (by omega)]
   refine Ev_t (by omega) ?_
   rw [wr64s i (by omega)]
   have nxt := ih (i + 1) (by omega)
   by_cases hi : i = 0
   rotate_left
   ·refine Ev_t (by omega) (Ev_t (by rw [Bs_size]; omega) (Ev_t (by omega) (Ev_b hd (Ev_t (by rw [Bs_size]; omega) ?_))))
    rw [e1, icat_snoc _ _ (by unfold itl; intro hc; have := congrArg List.length hc; rw [List.length_map, List.length_take, List.length_nil] at this; omega)] at nxt
    have e2 : Bs (icat (itl (l.take i))) ++ (⟨#[44]⟩ : ByteArray) ++ its l[i] = Bs (icat (itl (l.take i)) ++ 44 :: Go.Lib.itoa l[i]) := by
     unfold its
     rw [show (⟨#[44]⟩ : ByteArray) = Bs [44] from rfl, Bs_app, Bs_app, List.append_assoc, List.singleton_append]
    rw [e2]
    exact nxt
   subst hi
   refine Ev_f (by omega) (Ev_t (by omega) (Ev_b hd (Ev_t (by rw [Bs_size]; omega) ?_)))
   rw [e1] at nxt
   have e2 : Bs (icat (itl (l.take 0))) ++ its l[0] = Bs (icat (itl (l.take 0) ++ [Go.Lib.itoa l[0]])) := by
    unfold its
    rw [Bs_app]
    simp [itl, icat]
   rw [e2]
   exact nxt
 exact go l.length 0 (by omega)
theorem nmS (n : Int) (h0 : -1000000 ≤ n) (h1 : n ≤ 1000000) : nmOk n := by unfold nmOk; omega
theorem LT_size (l : List Int) (hl : l.length ≤ 64) (hb : ∀ x ∈ l, nmOk x) : (LT_ l).size ≤ 1408 := by
 unfold LT_
 split
 ·rw [Bs_size]; simp
 ·rw [Bs_size]; exact itl_len l hl hb
theorem vtext_ok (v : S87) (hs : v.f0.size ≤ 1000) (hv : vVen v.f0.toList v.f1 v.f2 = true) : ∃ t, Ev (fun k => bH_.f k [v]) t ∧ t.size ≤ 1100 := by
 have hr : (0 ≤ v.f1 ∧ v.f1 ≤ 100) ∧ 0 ≤ v.f2 ∧ v.f2 ≤ 179 := by
  unfold vVen at hv
  simp only [Bool.and_eq_true, decide_eq_true_eq] at hv
  exact ⟨hv.2.1, hv.2.2.2⟩
 have r1 : bO_ [v] 0 = v := rfl
 have d1 := dec_ev v.f1 (by omega) (by omega)
 have d2 := dec_ev v.f2 (by omega) (by omega)
 have s1 := its_size v.f1 (nmS _ (by omega) (by omega))
 have s2 := its_size v.f2 (nmS _ (by omega) (by omega))
 refine ⟨((((v.f0 ++ (⟨#[32]⟩ : ByteArray)) ++ its v.f1) ++ (⟨#[32]⟩ : ByteArray)) ++ its v.f2), ?_, ?_⟩
 ·simp only [bH_.f, r1]
  exact Ev_t (by simp) (Ev_t (by omega) (Ev_b d1 (Ev_t (by omega) (Ev_t (by omega) (Ev_b d2 (Ev_t (by omega) (Ev_n rfl)))))))
 ·have q1 : (⟨#[32]⟩ : ByteArray).size = 1 := rfl
  simp only [ByteArray.size_append]
  omega
theorem ltext_ok (x : S90) (hd : dleaf x) (hid : x.f0.size ≤ 1000) : ∃ t, Ev (fun k => bb_.f k [x]) t ∧ t.size ≤ 20000 := by
 obtain ⟨z1, _, n2, z3, vv, n4, n5, l6, hb⟩ := hd
 have r0 : an_ [x] 0 = x := rfl
 have d2 := dec_ev x.f2 (by omega) (by omega)
 have d4 := dec_ev x.f4 (by omega) (by omega)
 have d5 := dec_ev x.f5 (by omega) (by omega)
 have s2 := its_size x.f2 (nmS _ (by omega) (by omega))
 have s4 := its_size x.f4 (nmS _ (by omega) (by omega))
 have s5 := its_size x.f5 (nmS _ (by omega) (by omega))
 obtain ⟨tv, hv, sv⟩ := vtext_ok x.f3 (by omega) vv
 have q1 : (⟨#[47]⟩ : ByteArray).size = 1 := rfl
 have q2 : (⟨#[120]⟩ : ByteArray).size = 1 := rfl
 have hr : ∀ i (hi : i < x.f6.length), bZ_ x.f6 (i : Int) = x.f6[i] := fun i hi => by unfold bZ_; exact getD_in x.f6 _ i hi
 have go : ∀ (d i : Nat) (acc : ByteArray), i + d = x.f6.length → acc.size ≤ 3000 + 1500 * i → ∃ t, Ev (fun k => bb_.l0 k [x] acc i) t ∧ t.size ≤ 20000 := by
  intro d
  induction d with
  | zero =>
   intro i acc h ha
   refine ⟨acc, bm_ ?_, by omega⟩
   simp only [bb_.l0, r0]
   exact Ev_t (by simp) (Ev_f (by omega) (Ev_n rfl))
  | succ d ih =>
   intro i acc h ha
   have hi : i < x.f6.length := by omega
   have hbx := hb _ (List.getElem_mem hi)
   have hn : ∀ n ∈ [x.f6[i].f0, x.f6[i].f1, x.f6[i].f2, x.f6[i].f3], nmOk n := by
    intro n hn
    unfold dbox at hbx
    simp only [List.mem_cons, List.not_mem_nil, or_false] at hn
    rcases hn with rfl | rfl | rfl | rfl <;> exact nmS _ (by omega) (by omega)
   have t1 := list_spec [x.f6[i].f0, x.f6[i].f1, x.f6[i].f2, x.f6[i].f3] (by simp) hn
   have sz := LT_size [x.f6[i].f0, x.f6[i].f1, x.f6[i].f2, x.f6[i].f3] (by simp) hn
   obtain ⟨t, h1, h2⟩ := ih (i + 1) (acc ++ ((⟨#[47]⟩ : ByteArray) ++ LT_ [x.f6[i].f0, x.f6[i].f1, x.f6[i].f2, x.f6[i].f3])) (by omega) (by simp only [ByteArray.size_append]; omega)
   refine ⟨t, bm_ ?_, h2⟩
   simp only [bb_.l0, r0]
   rw [hr i hi, wr64s i (by omega)]
   exact Ev_t (by simp) (Ev_t (by omega) (Ev_t (by omega) (Ev_b t1 (Ev_t (by omega) (Ev_t (by omega) h1)))))
 obtain ⟨t, h1, h2⟩ := go x.f6.length 0 ((((((((((x.f0 ++ (⟨#[47]⟩ : ByteArray)) ++ x.f1) ++ (⟨#[47]⟩ : ByteArray)) ++ its x.f2) ++ (⟨#[47]⟩ : ByteArray)) ++ tv) ++ (⟨#[47]⟩ : ByteArray)) ++ its x.f4) ++ (⟨#[120]⟩ : ByteArray)) ++ its x.f5) (by omega) (by simp only [ByteArray.size_append]; omega)
 refine ⟨t, ?_, h2⟩
 simp only [bb_.f, r0]
 exact Ev_t (by simp) (Ev_t (by omega) (Ev_t (by omega) (Ev_t (by omega) (Ev_b d2 (Ev_t (by omega) (Ev_t (by omega) (Ev_b hv (Ev_t (by omega) (Ev_t (by omega) (Ev_b d4 (Ev_t (by omega) (Ev_t (by omega) (Ev_b d5 (Ev_t (by omega) h1))))))))))))))
abbrev kLeaf : ByteArray := ⟨#[108, 101, 97, 102]⟩
abbrev kNote : ByteArray := ⟨#[110, 111, 116, 101]⟩
abbrev kFace : ByteArray := ⟨#[102, 97, 99, 101]⟩
def dKind (x : ByteArray) : Prop := x = kLeaf ∨ x = kNote ∨ x = kFace
theorem j2_draw (c : List Int) (hc : u8s c) (a s : Int) (K N T : ByteArray) (h0 : 0 ≤ a) (h1 : a < 4611686018427300000) (hT : T.size ≤ 100000) : ∃ T' a' s', Ev (fun k => ao_.j2 k c a s K N T) (K, N, T', a', s') ∧ a ≤ a' ∧ a' ≤ a + 4 ∧ T'.size ≤ 100000 := by
 obtain ⟨b, a1, s1, e1, p1, q1⟩ := one_ok c hc a s 24 h0 (by omega) (by omega)
 cases b with
 | false =>
  refine ⟨T, a1, s1, bm_ ?_, by omega, by omega, hT⟩
  simp only [ao_.j2]
  exact Ev_b (Ev_c e1) (Ev_f (by simp) (Ev_n rfl))
 | true =>
  obtain ⟨n, a2, s2, e2, p2, q2, n0, n1⟩ := cz_ c hc a1 s1 3 (by omega) (by omega) (by omega)
  have hn := n1 (by omega)
  refine ⟨strOfNums (List.replicate (399 + n).toNat 0), a2, s2, bm_ ?_, by omega, by omega, by rw [strOf_size, List.length_replicate]; omega⟩
  simp only [ao_.j2]
  refine Ev_b (Ev_c e1) (Ev_t rfl (Ev_b (Ev_c e2) ?_))
  dsimp only
  rw [wr64 (x := 399 + n) (by omega) (by omega)]
  exact Ev_t (by omega) (Ev_t (by omega) (Ev_n rfl))
theorem j1_draw (c : List Int) (hc : u8s c) (a s : Int) (b : Bool) (K N T : ByteArray) (h0 : 0 ≤ a) (h1 : a < 4611686018427200000) (hN : N.size ≤ 100) (hT : T.size ≤ 100000) : ∃ T' a' s', Ev (fun k => ao_.j1 k b c a s K N T) (K, N, T', a', s') ∧ a ≤ a' ∧ a' ≤ a + 60 ∧ T'.size ≤ 100000 := by
 cases b with
 | false =>
  obtain ⟨T', a', s', h2, h3, h4, h5⟩ := j2_draw c hc a s K N T h0 (by omega) hT
  refine ⟨T', a', s', bm_ ?_, by omega, by omega, h5⟩
  simp only [ao_.j1]
  exact Ev_f (by decide) h2
 | true =>
  obtain ⟨x, a1, s1, e1, p1, q1, hid, hd⟩ := leaf_draw c hc a s N h0 (by omega)
  obtain ⟨t, ht, hs⟩ := ltext_ok x hd (by rw [hid]; omega)
  obtain ⟨T', a', s', h2, h3, h4, h5⟩ := j2_draw c hc a1 s1 K N t (by omega) (by omega) (by omega)
  refine ⟨T', a', s', bm_ ?_, by omega, by omega, h5⟩
  simp only [ao_.j1]
  exact Ev_t True.intro (Ev_b e1 (Ev_b ht h2))
theorem j0_draw (c : List Int) (hc : u8s c) (a s : Int) (K N T : ByteArray) (h0 : 0 ≤ a) (h1 : a < 4611686018427100000) (hN : N.size ≤ 100) (hT : T.size ≤ 100000) : ∃ T' a' s', Ev (fun k => ao_.j0 k c a s K N T) (K, N, T', a', s') ∧ a ≤ a' ∧ a' ≤ a + 70 ∧ T'.size ≤ 100000 := by
 by_cases hk : K.toList = ([108, 101, 97, 102] : List UInt8)
 rotate_left
 ·obtain ⟨T', a', s', h2, h3, h4, h5⟩ := j1_draw c hc a s false K N T (by omega) (by omega) hN hT
  refine ⟨T', a', s', bm_ ?_, by omega, by omega, h5⟩
  simp only [ao_.j0]
  exact Ev_f hk h2
 obtain ⟨b, a1, s1, e1, p1, q1⟩ := one_ok c hc a s 2 h0 (by omega) (by omega)
 obtain ⟨T', a', s', h2, h3, h4, h5⟩ := j1_draw c hc a1 s1 b K N T (by omega) (by omega) hN hT
 refine ⟨T', a', s', bm_ ?_, by omega, by omega, h5⟩
 simp only [ao_.j0]
 exact Ev_t hk (Ev_b (Ev_c e1) h2)
theorem block_draw (c : List Int) (hc : u8s c) (a s : Int) (h0 : 0 ≤ a) (h1 : a < 4611686018427000000) : ∃ (x : Blk) (a' s' : Int), Ev (fun k => ao_.f k c a s) (x.f0, x.f1, x.f2, a', s') ∧ a ≤ a' ∧ a' ≤ a + 100 ∧ dKind x.f0 ∧ x.f2.size ≤ 100000 := by
 obtain ⟨K, a1, s1, e1, p1, q1, hK⟩ := text_ok c hc a s [kLeaf, kNote, kFace] h0 (by omega) (by simp) (by simp)
 obtain ⟨N, a2, s2, e2, p2, q2, hN⟩ := text_ok c hc a1 s1 [(⟨#[97]⟩ : ByteArray), (⟨#[98]⟩ : ByteArray), (⟨#[99]⟩ : ByteArray), (⟨#[100]⟩ : ByteArray)] (by omega) (by omega) (by simp) (by simp)
 obtain ⟨T, a3, s3, e3, p3, q3, hT⟩ := text_ok c hc a2 s2 [(⟨#[]⟩ : ByteArray), (⟨#[120]⟩ : ByteArray), (⟨#[97, 32, 98, 32, 99]⟩ : ByteArray), (⟨#[49, 50, 32, 51, 52]⟩ : ByteArray), (⟨#[111, 97, 107, 47, 52, 48]⟩ : ByteArray)] (by omega) (by omega) (by simp) (by simp)
 obtain ⟨b, a4, s4, e4, p4, q4⟩ := one_ok c hc a3 s3 4 (by omega) (by omega) (by omega)
 have hNs : N.size ≤ 100 := by
  simp only [List.mem_cons, List.not_mem_nil, or_false] at hN
  rcases hN with rfl | rfl | rfl | rfl <;> decide
 have hTs : T.size ≤ 100 := by
  simp only [List.mem_cons, List.not_mem_nil, or_false] at hT
  rcases hT with rfl | rfl | rfl | rfl | rfl <;> decide
 have hK2 : dKind K := by simpa [dKind] using hK
 cases b with
 | false =>
  obtain ⟨T', a', s', h2, h3, h4, h5⟩ := j0_draw c hc a4 s4 K N T (by omega) (by omega) hNs (by omega)
  refine ⟨⟨K, N, T'⟩, a', s', ?_, by omega, by omega, hK2, h5⟩
  simp only [ao_.f]
  exact Ev_b (Ev_c e1) (Ev_b (Ev_c e2) (Ev_b (Ev_c e3) (Ev_b (Ev_c e4) (Ev_f (by simp) h2))))
 | true =>
  obtain ⟨wd, a5, s5, e5, p5, q5, hw⟩ := word_ok c hc a4 s4 9 (by omega) (by omega) (by omega) (by omega)
  obtain ⟨T', a', s', h2, h3, h4, h5⟩ := j0_draw c hc a5 s5 K N (T ++ wd) (by omega) (by omega) hNs (by rw [ByteArray.size_append]; omega)
  refine ⟨⟨K, N, T'⟩, a', s', ?_, by omega, by omega, hK2, h5⟩
  simp only [ao_.f]
  exact Ev_b (Ev_c e1) (Ev_b (Ev_c e2) (Ev_b (Ev_c e3) (Ev_b (Ev_c e4) (Ev_t rfl (Ev_b e5 (Ev_t (by dsimp only; omega) h2))))))
def oneV (x : Blk) : Prop := (x.f2.size : Int) ≤ 1048576 ∧ Ev (fun k => aY_.f k [x]) true
def okL (m : List Blk) : Prop := m.length ≤ 32 ∧ m.Pairwise lessB ∧ ∀ y ∈ m, oneV y
theorem okL.len {m : List Blk} (h : okL m) : (m.length : Int) ≤ 1048576 := by have := h.1; omega
theorem okL.w {m : List Blk} (h : okL m) : ∀ y ∈ m, (y.f2.size : Int) ≤ 1048576 := fun y hy => (h.2.2 y hy).1
theorem okL.ev {m : List Blk} (h : okL m) : Ev (fun k => aC_.f k m) true := by
 obtain ⟨hl, hp, ho⟩ := h
 have go : ∀ (d i : Nat), i + d = m.length → Ev (fun k => aC_.l0 k m i) true := by
  intro d
  induction d with
  | zero =>
   intro i hi
   refine bm_ ?_
   simp only [aC_.l0]
   exact Ev_f (by omega) (Ev_n (decide_eq_true (by omega)))
  | succ d ih =>
   intro i hi
   have h1 := (ho _ (List.getElem_mem (show i < m.length by omega))).2
   refine bm_ ?_
   simp only [aC_.l0]
   rw [bL_ m i (by omega), wr64s i (by omega)]
   refine Ev_t (by omega) (Ev_t (by omega) (Ev_b h1 (Ev_t rfl ?_)))
   by_cases h0 : i = 0
   rotate_left
   ·have e : wrap64 ((i : Int) - 1) = ((i - 1 : Nat) : Int) := by rw [wr64 (by omega) (by omega)]; omega
    rw [e, bL_ m (i - 1) (by omega)]
    have hc : cB (ckB (m[i - 1]'(by omega))) (ckB (m[i]'(by omega))) < 0 := (List.pairwise_iff_getElem.1 hp) (i - 1) i (by omega) (by omega) (by omega)
    refine Ev_t (by omega) (Ev_t (by omega) (Ev_t (by omega) (Ev_b (Ev_c (bfr_ev _ _)) (Ev_t (by simpa using hc) (ih (i + 1) (by omega))))))
   exact Ev_f (by omega) (ih (i + 1) (by omega))
 simp only [aC_.f]
 exact go m.length 0 (by omega)
theorem lessB_uniq {m : List Blk} (hp : m.Pairwise lessB) {y z : Blk} (hy : y ∈ m) (hz : z ∈ m) (h : cB (ckB y) (ckB z) = 0) : y = z := by
 obtain ⟨i, hi, rfl⟩ := List.mem_iff_getElem.1 hy
 obtain ⟨j, hj, rfl⟩ := List.mem_iff_getElem.1 hz
 rcases Nat.lt_trichotomy i j with g | g | g
 ·have := (List.pairwise_iff_getElem.1 hp) i j hi hj g; unfold lessB at this; omega
 ·subst g; rfl
 ·have := (List.pairwise_iff_getElem.1 hp) j i hj hi g; have h2 := (zsym _ _).1 h; unfold lessB at this; omega
theorem okL.put {m : List Blk} (h : okL m) {b : Blk} (hb : oneV b) (hl : (putB m b).length ≤ 32) : okL (putB m b) := by
 refine ⟨hl, put_pw h.2.1 b, fun y hy => ?_⟩
 rcases (put_mem h.2.1 b y).1 hy with rfl | ⟨g, _⟩
 ·exact hb
 ·exact h.2.2 y g
theorem put_spec {m : List Blk} (h : okL m) (b : Blk) (hb : (b.f2.size : Int) ≤ 1048576) : ∃ r c, Ev (fun k => aQ_.f k m b.f0 b.f1 b.f2) (r, c) ∧ (c = 0 → oneV b ∧ r = putB m b ∧ (putB m b).length ≤ 32) ∧ (oneV b → (putB m b).length ≤ 32 → r = putB m b ∧ c = 0) := by
 obtain ⟨vb, hvb⟩ := validB_ev b hb
 have g1 : Ev (fun k => aY_.f k [b]) vb := ⟨2000001, fun k hk => (hvb k (by omega)).1⟩
 have f1 := put_ev m h.len b (rsg_pw h.2.1 _)
 cases vb with
 | false =>
  refine ⟨[], 1, ?_, fun g => by omega, fun g => by have := Ev_one g1 g.2; cases this⟩
  simp only [aQ_.f]
  refine Ev_b h.ev (Ev_t rfl (Ev_b g1 (bm_ ?_)))
  simp only [aQ_.j0]
  exact Ev_t (by rfl) (Ev_n rfl)
 | true =>
  by_cases hl : ((putB m b).length : Int) > 32
  rotate_left
  ·refine ⟨putB m b, 0, ?_, fun _ => ⟨⟨hb, g1⟩, rfl, by omega⟩, fun _ _ => ⟨rfl, rfl⟩⟩
   simp only [aQ_.f]
   refine Ev_b h.ev (Ev_t rfl (Ev_b g1 (bm_ ?_)))
   simp only [aQ_.j0]
   exact Ev_f (by decide) (Ev_b f1 (Ev_f hl (Ev_n rfl)))
  refine ⟨[], 5, ?_, fun g => by omega, fun _ g => by omega⟩
  simp only [aQ_.f]
  refine Ev_b h.ev (Ev_t rfl (Ev_b g1 (bm_ ?_)))
  simp only [aQ_.j0]
  exact Ev_f (by decide) (Ev_b f1 (Ev_t hl (Ev_n rfl)))
theorem blocks_loop (c : List Int) (hc : u8s c) : ∀ (n : Nat) (a s : Int) (m : List Blk), n ≤ 10 → 0 ≤ a → a + 100 * n < 4611686018427000000 → okL m → (∀ y ∈ m, dKind y.f0) → ∃ m' a' s', Ev (fun k => by_.l0 k m n c a s) (m', a', s') ∧ okL m' ∧ m'.length ≤ m.length + n ∧ ∀ y ∈ m', dKind y.f0
 | 0, a, s, m, _, _, _, hm, hk => ⟨m, a, s, by refine bm_ ?_; simp only [by_.l0]; exact Ev_f (by simp) (Ev_n rfl), hm, by omega, hk⟩
 | n + 1, a, s, m, hn, h0, h1, hm, hk => by
  obtain ⟨x, a1, s1, e1, p1, q1, k1, z1⟩ := block_draw c hc a s h0 (by omega)
  obtain ⟨r, cd, e2, g1, _⟩ := put_spec hm x (by omega)
  have ew : wrap64 (((n + 1 : Nat) : Int) - 1) = (n : Int) := by rw [wr64 (by omega) (by omega)]; omega
  by_cases hcd : cd = 0
  rotate_left
  ·obtain ⟨m', a', s', h2, h3, h4, h5⟩ := blocks_loop c hc n a1 s1 m (by omega) (by omega) (by omega) hm hk
   refine ⟨m', a', s', bm_ ?_, h3, by omega, h5⟩
   simp only [by_.l0, ew]
   exact Ev_t (by omega) (Ev_b e1 (Ev_b e2 (Ev_f hcd h2)))
  obtain ⟨ho, rfl, hl⟩ := g1 hcd
  have hp := put_len m x
  obtain ⟨m', a', s', h2, h3, h4, h5⟩ := blocks_loop c hc n a1 s1 (putB m x) (by omega) (by omega) (by omega) (hm.put ho hl) (fun y hy => by
   rcases (put_mem hm.2.1 x y).1 hy with rfl | ⟨g, _⟩
   ·exact k1
   ·exact hk y g)
  refine ⟨m', a', s', bm_ ?_, h3, by omega, h5⟩
  simp only [by_.l0, ew]
  exact Ev_t (by omega) (Ev_b e1 (Ev_b e2 (Ev_t hcd h2)))
theorem blocks_draw (c : List Int) (hc : u8s c) : ∃ m, Ev (fun k => bT_.f k c) m ∧ okL m ∧ m.length ≤ 5 ∧ ∀ y ∈ m, dKind y.f0 := by
 obtain ⟨n, a1, s1, e1, p1, q1, n0, n1⟩ := cz_ c hc 0 0 6 (by omega) (by omega) (by omega)
 have hn := n1 (by omega)
 obtain ⟨m', a', s', h2, h3, h4, h5⟩ := blocks_loop c hc n.toNat a1 s1 [] (by omega) (by omega) (by omega) ⟨by simp, List.Pairwise.nil, by simp⟩ (by simp)
 have hn2 : ((n.toNat : Nat) : Int) = n := by omega
 rw [hn2] at h2
 refine ⟨m', ?_, h3, by simp at h4; omega, h5⟩
 simp only [bT_.f]
 refine Ev_b (a := (c, 0, 0)) (Ev_c rfl) (Ev_b (a := (m', a', s')) ?_ (Ev_n rfl))
 simp only [by_.f]
 exact Ev_b (Ev_c e1) h2
theorem rsg_ok {m : List Blk} (h : okL m) (u v : ByteArray) : Rsg (fun x => cB (ckB x) (u.data.toList, v.data.toList)) m := rsg_pw h.2.1 _
theorem fnd_mem {m : List Blk} (h : okL m) {x : Blk} (hx : x ∈ m) : ∃ hp : plc (fun y => cB (ckB y) (ckB x)) m < m.length, fnd (fun y => cB (ckB y) (ckB x)) m = true ∧ m[plc (fun y => cB (ckB y) (ckB x)) m]'hp = x := by
 have hf : fnd (fun y => cB (ckB y) (ckB x)) m = true := (fnd_iff h.2.1 x).2 ⟨x, hx, (cB_ord.zero _ _).2 rfl⟩
 obtain ⟨hp, h0⟩ := fnd_t hf
 exact ⟨hp, hf, lessB_uniq h.2.1 (List.getElem_mem hp) hx h0⟩
theorem named_mem {m : List Blk} (h : okL m) {x : Blk} (hx : x ∈ m) : Ev (fun k => bw_.f k m x.f0 x.f1) (x.f2, 0) := by
 obtain ⟨hp, hf, he⟩ := fnd_mem h hx
 have f1 := find_ev m h.len x.f0 x.f1 (rsg_ok h _ _)
 have s : Ev (fun k => bY_.f k m x.f0 x.f1) (x.f2, 0) := by
  rw [show (fun y => cB (ckB y) (x.f0.data.toList, x.f1.data.toList)) = (fun y => cB (ckB y) (ckB x)) from rfl, hf, if_pos rfl] at f1
  simp only [bY_.f]
  exact Ev_b h.ev (Ev_t rfl (Ev_b f1 (Ev_f (by omega) (Ev_t (by omega) (Ev_t (by omega) (Ev_n (by rw [bL_ m _ hp, he])))))))
 obtain ⟨r, e1, e2⟩ := named_ev m h.len h.w x.f0 x.f1
 rw [Ev_one e1 s] at e2
 exact e2
theorem same_self (m : List Blk) (hl : (m.length : Int) ≤ 1048576) : Ev (fun k => bG_.f k m m) true := by
 have go : ∀ (d i : Nat), i + d = m.length → Ev (fun k => bI_.l0 k m m i) true := by
  intro d
  induction d with
  | zero => intro i hi; refine bm_ ?_; simp only [bI_.l0]; exact Ev_f (by omega) (Ev_n rfl)
  | succ d ih =>
   intro i hi
   refine bm_ ?_
   simp only [bI_.l0]
   rw [wr64s i (by omega)]
   exact Ev_t (by omega) (Ev_t (by omega) (Ev_t (by omega) (Ev_f (by simp) (ih (i + 1) (by omega)))))
 simp only [bG_.f]
 refine Ev_b (a := true) ?_ (Ev_n rfl)
 simp only [bI_.f]
 exact Ev_t (by trivial) (go m.length 0 (by omega))
abbrev bNew : Blk := ⟨(⟨#[110, 101, 119]⟩ : ByteArray), (⟨#[120]⟩ : ByteArray), (⟨#[116]⟩ : ByteArray)⟩
theorem one_new : oneV bNew := by
 refine ⟨by decide, ?_⟩
 obtain ⟨na, ha⟩ := name_ev bNew.f0
 obtain ⟨nb, hb⟩ := name_ev bNew.f1
 have a1 : na = true := by
  have h1 := ha 13 (by omega)
  have h2 : ax_.f 13 bNew.f0 = some true := by decide +kernel
  rw [h2] at h1
  exact (Option.some.inj h1).symm
 have b1 : nb = true := by
  have h1 := hb 13 (by omega)
  have h2 : ax_.f 13 bNew.f1 = some true := by decide +kernel
  rw [h2] at h1
  exact (Option.some.inj h1).symm
 subst a1 b1
 refine ⟨22, fun k hk => ?_⟩
 have g := oneB_loop bNew (by decide) true true ha hb 1 0 rfl k (by omega)
 simp only [aY_.f]
 exact g.trans (by decide +kernel)
theorem named_kinds {m : List Blk} (h : okL m) (u : ByteArray) : Ev (fun k => aF_.f k m u) ((m.filter (fun y => decide (y.f0.toList = u.toList))).map (·.f1), 0) := by
 have go : ∀ (d i : Nat) (out : List ByteArray), i + d = m.length → out.length ≤ i → Ev (fun k => aE_.l0 k m u out i) (out ++ ((m.drop i).filter (fun y => decide (y.f0.toList = u.toList))).map (·.f1), 0) := by
  intro d
  induction d with
  | zero =>
   intro i out h1 h2
   refine bm_ ?_
   simp only [aE_.l0]
   rw [List.drop_of_length_le (by omega)]
   exact Ev_f (by omega) (Ev_n (by simp))
  | succ d ih =>
   intro i out h1 h2
   have hi : i < m.length := by omega
   have := h.1
   refine bm_ ?_
   simp only [aE_.l0]
   rw [bL_ m i hi, wr64s i (by omega), List.drop_eq_getElem_cons hi]
   refine Ev_t (by omega) (Ev_t (by omega) ?_)
   by_cases e : m[i].f0.toList = u.toList
   rotate_left
   ·refine Ev_f e ?_
    rw [List.filter_cons_of_neg (by simpa using e)]
    exact ih (i + 1) out (by omega) (by omega)
   refine Ev_t e (Ev_t (by omega) ?_)
   have nx := ih (i + 1) (out ++ [m[i].f1]) (by omega) (by simp; omega)
   rw [List.filter_cons_of_pos (by simpa using e), List.map_cons]
   rw [List.append_assoc, List.singleton_append] at nx
   exact nx
 have s : Ev (fun k => aE_.f k m u) ((m.filter (fun y => decide (y.f0.toList = u.toList))).map (·.f1), 0) := by
  simp only [aE_.f]
  have g := go m.length 0 [] (by omega) (by simp)
  rw [List.nil_append, List.drop_zero] at g
  exact Ev_b h.ev (Ev_t rfl g)
 obtain ⟨r, c, _, e1, e2⟩ := kinds_ev m h.len h.w u
 rw [Ev_one e1 s] at e2
 exact e2
theorem drop_of {m : List Blk} (h : okL m) {x : Blk} (hx : x ∈ m) : Ev (fun k => bS_.f k m x.f0 x.f1) (m.take (plc (fun y => cB (ckB y) (ckB x)) m) ++ m.drop (plc (fun y => cB (ckB y) (ckB x)) m + 1), 0) := by
 obtain ⟨hp, hf, he⟩ := fnd_mem h hx
 have f1 := find_ev m h.len x.f0 x.f1 (rsg_ok h _ _)
 have hl := h.1
 have s : Ev (fun k => cd_.f k m x.f0 x.f1) (m.take (plc (fun y => cB (ckB y) (ckB x)) m) ++ m.drop (plc (fun y => cB (ckB y) (ckB x)) m + 1), 0) := by
  rw [show (fun y => cB (ckB y) (x.f0.data.toList, x.f1.data.toList)) = (fun y => cB (ckB y) (ckB x)) from rfl, hf, if_pos rfl] at f1
  generalize plc (fun y => cB (ckB y) (ckB x)) m = p at hp f1 he ⊢
  simp only [cd_.f]
  refine Ev_b h.ev (Ev_t rfl (Ev_b f1 (Ev_f (by omega) (Ev_s (Ev_t (by omega) (Ev_t (by omega) (Ev_s (Ev_t (by simp; omega) (Ev_s ?_)))))))))
  rw [wr64s p (by omega)]
  refine Ev_t (by omega) (Ev_t (by omega) (Ev_s (Ev_t (by simp; omega) (Ev_n ?_))))
  rw [List.nil_append]
  rfl
 obtain ⟨r, c, _, e1, e2⟩ := drop_ev m h.len h.w x.f0 x.f1
 rw [Ev_one e1 s] at e2
 exact e2
theorem merge_of {a b : List Blk} (ha : okL a) (hb : okL b) (hl : (b.foldl putB a).length ≤ 32) : Ev (fun k => aq_.f k a b) (b.foldl putB a, 0) := by
 have la := ha.1
 have lb := hb.1
 have sp : ∀ (d i : Nat) (out : List Blk), i + d = b.length → out.Pairwise lessB → out.length ≤ 32 + i → ((b.drop i).foldl putB out).length ≤ 32 → Ev (fun k => as_.l0 k b out i) ((b.drop i).foldl putB out, 0) := by
  intro d
  induction d with
  | zero =>
   intro i out h1 h2 h3 h4
   refine bm_ ?_
   simp only [as_.l0]
   rw [List.drop_of_length_le (by omega), List.foldl_nil] at h4 ⊢
   exact Ev_f (by omega) (Ev_f (by omega) (Ev_n rfl))
  | succ d ih =>
   intro i out h1 h2 h3 h4
   have hi : i < b.length := by omega
   refine bm_ ?_
   simp only [as_.l0]
   rw [List.drop_eq_getElem_cons hi, List.foldl_cons] at h4 ⊢
   rw [bL_ b i hi, wr64s i (by omega)]
   have := put_len out b[i]
   exact Ev_t (by omega) (Ev_t (by omega) (Ev_b (put_ev out (by omega) b[i] (rsg_pw h2 _)) (ih (i + 1) _ (by omega) (put_pw h2 _) (by omega) h4)))
 have s : Ev (fun k => as_.f k a b) (b.foldl putB a, 0) := by
  simp only [as_.f]
  refine Ev_b ha.ev (Ev_t rfl (Ev_b hb.ev (bm_ ?_)))
  simp only [as_.j0]
  refine Ev_f (by decide) (Ev_s (Ev_t (by simp; omega) ?_))
  rw [List.nil_append]
  exact sp b.length 0 a (by omega) ha.2.1 (by omega) hl
 obtain ⟨r, c, _, e1, e2⟩ := merge_ev a b ha.len hb.len ha.w hb.w
 rw [Ev_one e1 s] at e2
 exact e2
theorem folds_len : ∀ (b a : List Blk), (b.foldl putB a).length ≤ a.length + b.length
 | [], a => by simp
 | x :: b, a => by
  have h1 := folds_len b (putB a x)
  have h2 := put_len a x
  rw [List.foldl_cons, List.length_cons]
  omega
theorem ins_plc {α : Type} (c : α → Int) (l : List α) (x : α) (hx : c x = 0) (p : Nat) (hp : p = plc c l) : plc c (l.take p ++ x :: l.drop p) = p ∧ (l.take p ++ x :: l.drop p).take p ++ (l.take p ++ x :: l.drop p).drop (p + 1) = l := by
 have hpl : p ≤ l.length := by rw [hp]; exact plc_le c l
 constructor
 ·refine plc_of p (by simp; omega) (fun j hj hjp => ?_) (fun h => ?_)
  ·rw [List.getElem_append_left (by simp; omega), List.getElem_take]
   exact plc_lt c l j (by omega) (by omega)
  ·rw [List.getElem_append_right (by simp; omega)]
   simp [Nat.min_eq_left hpl, hx]
 ·have e : (l.take p).length = p := by simp; omega
  rw [List.take_append_of_le_length (by omega), List.take_take, Nat.min_self, List.drop_append, e, List.drop_of_length_le (by omega)]
  simp
theorem u8s_of {l : List Int} (hl : ¬ (l.length : Int) > 1048576) (hw : ∀ x ∈ l, (Lit.int .u8 x).wf = true) : u8s l := by
 refine ⟨by omega, fun x hx => ?_⟩
 have h := hw x hx
 simp only [Lit.wf, Bool.and_eq_true, decide_eq_true_eq] at h
 have e1 : IntKind.u8.min = 0 := by decide
 have e2 : IntKind.u8.max = 255 := by decide
 omega
theorem law_Blocks : ak_.Pure := by
 intro l0 l1 _ _ hw0 _ _ hw1
 suffices hs : Ev (fun k => ak_.f k l0 l1) true from hs.rounds
 simp only [ak_.f]
 by_cases c0 : (l0.length : Int) > 1048576
 ·exact Ev_b (a := true) (Ev_c (by unfold cx_.f; rw [if_pos c0])) (Ev_t rfl (Ev_n rfl))
 by_cases c1 : (l1.length : Int) > 1048576
 ·exact Ev_b (a := true) (Ev_c (by unfold cx_.f; rw [if_neg c0, decide_eq_true c1])) (Ev_t rfl (Ev_n rfl))
 refine Ev_b (a := false) (Ev_c (by unfold cx_.f; rw [if_neg c0, decide_eq_false c1])) (Ev_f (by decide) ?_)
 obtain ⟨L, eL, oL, zL, kL⟩ := blocks_draw l0 (u8s_of c0 hw0)
 obtain ⟨O, eO, oO, zO, kO⟩ := blocks_draw l1 (u8s_of c1 hw1)
 refine Ev_b eL (Ev_b eO ?_)
 have nf : fnd (fun y => cB (ckB y) (ckB bNew)) L = false := by
  cases hf : fnd (fun y => cB (ckB y) (ckB bNew)) L with
  | false => rfl
  | true =>
   obtain ⟨y, hy, h0⟩ := (fnd_iff oL.2.1 bNew).1 hf
   have := ((key_iff y bNew.f0 bNew.f1).1 h0).1
   rcases kL y hy with g | g | g <;> rw [g] at this <;> revert this <;> decide +kernel
 have eP : putB L bNew = L.take (plc (fun y => cB (ckB y) (ckB bNew)) L) ++ bNew :: L.drop (plc (fun y => cB (ckB y) (ckB bNew)) L) := by unfold putB; rw [if_neg (by rw [nf]; decide)]
 have hpl := plc_le (fun y => cB (ckB y) (ckB bNew)) L
 have lP := put_len L bNew
 have oP : okL (putB L bNew) := oL.put one_new (by omega)
 have mP : bNew ∈ putB L bNew := (put_mem oL.2.1 bNew bNew).2 (Or.inl rfl)
 obtain ⟨r, c, e1, _, g2⟩ := put_spec oL bNew (by decide)
 obtain ⟨rfl, rfl⟩ := g2 one_new (by omega)
 obtain ⟨r', c', _, e2, e3⟩ := putin_ev L oL.len oL.w bNew (by decide)
 rw [Ev_one e2 e1] at e3
 refine Ev_b e3 (Ev_b (named_mem oP mP) ?_)
 obtain ⟨hp, eD⟩ := ins_plc (fun y => cB (ckB y) (ckB bNew)) L bNew ((cB_ord.zero _ _).2 rfl) _ rfl
 rw [← eP] at hp eD
 have dr := drop_of oP mP
 rw [hp, eD] at dr
 have lM := folds_len O L
 obtain ⟨pM, mM⟩ := puts_mem O L oL.2.1 oO.2.1
 have oM : okL (O.foldl putB L) := ⟨by omega, pM, fun y hy => by
  rcases (mM y).1 hy with g | ⟨g, _⟩
  ·exact oO.2.2 y g
  ·exact oL.2.2 y g⟩
 have kd := named_kinds oP (⟨#[110, 101, 119]⟩ : ByteArray)
 have k1 : (((putB L bNew).filter (fun y => decide (y.f0.toList = (⟨#[110, 101, 119]⟩ : ByteArray).toList))).map (·.f1)).length = 1 := by
  have nn : ∀ M : List Blk, (∀ y ∈ M, y ∈ L) → M.filter (fun y => decide (y.f0.toList = (⟨#[110, 101, 119]⟩ : ByteArray).toList)) = [] := by
   intro M hM
   refine List.filter_eq_nil_iff.2 (fun y hy => ?_)
   rcases kL y (hM y hy) with g | g | g <;> rw [g] <;> decide +kernel
  rw [eP, List.filter_append, List.filter_cons_of_pos (by decide +kernel), nn _ (fun y hy => List.mem_of_mem_take hy), nn _ (fun y hy => List.mem_of_mem_drop hy)]
  rfl
 refine Ev_b dr (Ev_b (merge_of oL oO (by omega)) (Ev_b kd ?_))
 refine Ev_t rfl (Ev_t rfl (Ev_t (by decide +kernel) (Ev_t rfl (Ev_b (same_self L oL.len) (Ev_t rfl (Ev_t rfl (Ev_b (a := true) ?_ (Ev_t rfl (Ev_t rfl ?_)))))))))
 ·simp only [bP_.f]; exact Ev_b oM.ev (Ev_n rfl)
 dsimp only
 rw [k1]
 refine bm_ ?_
 simp only [ak_.j0]
 refine Ev_f (by decide) ?_
 have go : ∀ (d i : Nat), i + d = O.length → Ev (fun k => ak_.l0 k L O (O.foldl putB L) i) true := by
  intro d
  induction d with
  | zero =>
   intro i hi
   refine bm_ ?_
   simp only [ak_.l0]
   refine Ev_f (by omega) (Ev_n (decide_eq_true ?_))
   rw [wr64 (by omega) (by omega)]
   omega
  | succ d ih =>
   intro i hi
   refine bm_ ?_
   simp only [ak_.l0]
   rw [bL_ O i (by omega), wr64s i (by omega)]
   have hm : O[i] ∈ O.foldl putB L := (mM _).2 (Or.inl (List.getElem_mem (by omega)))
   exact Ev_t (by omega) (Ev_t (by omega) (Ev_b (named_mem oM hm) (Ev_t rfl (Ev_t rfl (ih (i + 1) (by omega))))))
 exact go O.length 0 (by omega)
end Go.Proofs.Ytckboiphlhhckaa.Q
namespace Go.Proofs.Ytckboiphlhhckaa.Pure
open Go.Proofs.Ytckboiphlhhckaa.Q
theorem FnBlocks : ak_.Pure := law_Blocks
end Go.Proofs.Ytckboiphlhhckaa.Pure
namespace Go.Proofs.YtckboiphlhhckaaW.PrintWords
open Go.ChangeShapes Go.WideShapes
theorem sized_ints {H : Type} {enc : TypeId × Value → H} {P : Program} {W : World} {base : Nat} {spare : Nat → Bool} {held : Bool} {t e : TypeId} {k : IntKind} {a : Option Addr} {len cap : Nat} {d : DataW H} {ps : List MemPlace} {ts : List TypeId} {ds : List (DataW H)} {j : Nat}
  (hsz : (DataW.weightsEach P ts ds).all (· ≤ reachBytes) = true) (ht : ts[j]? = some t) (hd : ds[j]? = some d) (hu : P.underlying t = some (.slice e)) (he : P.underlying e = some (.int k)) (hc : P.cellsOf e = 1) {B : Nat} (hB : P.bytesOf e = B)
  (h : DataW.Trod enc P W base spare held t (.slice a len cap) d ps) : len * B ≤ 140737488351232 := by
 obtain ⟨fuel, hf⟩ := h
 rcases open_ints hu he hc hf with ⟨hcs, _⟩ | ⟨x, l, c, zs, hcs, _, hl, _, hz, hx, _, _⟩
 ·simp [Value.cells] at hcs
  obtain ⟨rfl, rfl, rfl⟩ := hcs
  simp
 ·simp [Value.cells] at hcs
  obtain ⟨rfl, rfl, rfl⟩ := hcs
  obtain ⟨hx, _⟩ := Prod.mk.inj hx
  subst hx
  have z := sized_slice hsz ht hd hu
  rw [hB] at z
  have hl2 : len ≤ zs.length := by
   rw [hz]
   split
   ·exact hl
   ·exact Nat.le_refl _
  have h1 : (lits (H := H) k (zs.take len)).length + (lits (H := H) k (zs.drop len)).length = zs.length := by
   simp [lits]
   omega
  rw [h1] at z
  exact Nat.le_trans (Nat.mul_le_mul_right _ hl2) z
end Go.Proofs.YtckboiphlhhckaaW.PrintWords
namespace Go.Proofs.Ytckboiphlhhckaa.fnBlocks
open Go.ChangeShapes Go.WideShapes Go.ChangeAt Go.RowKit
open Go.ChangeMaps (open_string shut_string)
theorem own : ownKnob Try.prog.godebug = none := by kernel_rfl
theorem laidOut : laidOutB Try.prog = true := by kernel_rfl
def IsRow (k : IntKind) (w : World) (a : Option Addr) (len cap : Nat) (zs : List Int) : Prop :=
 (a = none ∧ len = 0 ∧ cap = 0 ∧ zs = []) ∨
 ∃ x, a = some x ∧ len ≤ cap ∧ cap ≤ maxLen ∧ zs.length = cap ∧ (∀ i, i < zs.length → w.cell? (x.add i) = some (.int k (zs.getD i 0))) ∧ ∀ n ∈ zs, (Lit.int k n).wf = true
set_option maxRecDepth 100000 in
theorem lifted (os : Os) (started : os.Started) (H : Type) (enc : TypeId × Value → H) :
  ReturnsInHanded {} Try.checked os 11 .any (Rows.fnBlocksSpec.pre6 enc Try.prog Try.f11 Rows.fnBlocksRow.domain false) (Rows.fnBlocksSpec.post enc Try.prog Try.f11 false true false false) := by
 refine returnsInHanded_of_change_sized (C := Try.checked) own started (by kernel_rfl) Try.func11
  (ChangeSpec.witness6 (enc := enc) (C := Try.checked) false ⟨#[], #[.slice none 0 0, .slice none 0 0], []⟩ 8 (by kernel_rfl) (by kernel_rfl) (by kernel_rfl) (by kernel_rfl)) ?_
 intro W base args ds gs before hval0 hW hcnd hsz0 _
 have hsz : (DataW.weightsEach Try.prog (Try.f11.params.toList ++ Rows.fnBlocksSpec.plain.varTypes Try.prog) (ds ++ gs)).all (· ≤ reachBytes) = true := hsz0
 have hval : ∀ (j : Nat) t v, Try.f11.params[j]? = some t → args[j]? = some v → Value.okWide Try.prog W .any base t v := hval0
 have hW' := hW
 obtain ⟨p, q, hA0, hV, rfl, hfz, hnd⟩ := hW
 have hA : DataW.TrodAll enc Try.prog W 0 (fun _ => true) true Try.f11.params.toList args.toList ds p := hA0
 rw [Try.params11] at hA hval hsz
 obtain ⟨v0, vs0, d0, ds0, p0, q0, hargs, rfl, rfl, h0, r0⟩ := trodAll_cons hA
 obtain ⟨v1, vs1, d1, ds1, p1, q1, rfl, rfl, rfl, h1, r1⟩ := trodAll_cons r0
 obtain ⟨rfl, rfl, rfl⟩ := trodAll_nil r1
 obtain rfl : args = #[v0, v1] := by cases args; simp_all
 obtain ⟨rfl, rfl⟩ := trodVars_none hV
 obtain ⟨a0, len0, cap0, rfl⟩ := okWide_slice Try.underlying52 (hval 0 52 v0 rfl rfl)
 have k0 := h0
 have lt0 : ∀ x ∈ p0, x.block < W.heap.size := by obtain ⟨m, hm⟩ := k0; exact DataW.trod_lt m _ _ _ hm
 obtain ⟨z0, w0⟩ : ∃ zs, IsRow .u8 W a0 len0 cap0 zs := by
  obtain ⟨fuel, hf⟩ := h0
  rcases open_ints Try.underlying52 Try.underlying5 (by kernel_rfl) hf with ⟨hcs, _⟩ | ⟨x, l, c, zs, hcs, _, hl, hm, hz, _, hcell, hwz⟩
  ·simp [Value.cells] at hcs
   obtain ⟨rfl, rfl, rfl⟩ := hcs
   exact ⟨[], .inl ⟨rfl, rfl, rfl, rfl⟩⟩
  ·simp [Value.cells] at hcs
   obtain ⟨rfl, rfl, rfl⟩ := hcs
   exact ⟨zs, .inr ⟨_, rfl, hl, hm, by simpa using hz, hcell, hwz⟩⟩
 have y0 : len0 * 1 ≤ 140737488351232 := Go.Proofs.YtckboiphlhhckaaW.PrintWords.sized_ints hsz (j := 0) (t := 52) rfl rfl Try.underlying52 Try.underlying5 (by kernel_rfl) (by kernel_rfl) h0
 obtain ⟨a1, len1, cap1, rfl⟩ := okWide_slice Try.underlying52 (hval 1 52 v1 rfl rfl)
 have k1 := h1
 have lt1 : ∀ x ∈ p1, x.block < W.heap.size := by obtain ⟨m, hm⟩ := k1; exact DataW.trod_lt m _ _ _ hm
 obtain ⟨z1, w1⟩ : ∃ zs, IsRow .u8 W a1 len1 cap1 zs := by
  obtain ⟨fuel, hf⟩ := h1
  rcases open_ints Try.underlying52 Try.underlying5 (by kernel_rfl) hf with ⟨hcs, _⟩ | ⟨x, l, c, zs, hcs, _, hl, hm, hz, _, hcell, hwz⟩
  ·simp [Value.cells] at hcs
   obtain ⟨rfl, rfl, rfl⟩ := hcs
   exact ⟨[], .inl ⟨rfl, rfl, rfl, rfl⟩⟩
  ·simp [Value.cells] at hcs
   obtain ⟨rfl, rfl, rfl⟩ := hcs
   exact ⟨zs, .inr ⟨_, rfl, hl, hm, by simpa using hz, hcell, hwz⟩⟩
 have y1 : len1 * 1 ≤ 140737488351232 := Go.Proofs.YtckboiphlhhckaaW.PrintWords.sized_ints hsz (j := 1) (t := 52) rfl rfl Try.underlying52 Try.underlying5 (by kernel_rfl) (by kernel_rfl) h1
 clear hA0 hval0 hsz0 hsz
 refine (Q.ak_.walk Pure.FnBlocks a0 len0 cap0 z0 a1 len1 cap1 z1 W w0 y0 w1 y1).mono fun e W' ⟨he, bel⟩ => ?_
 subst he
 exact ⟨_, rfl, _, _, _, [], _, [], hW', trodAll_mk1 (shut_bool Try.underlying4 _), (trodAll_cons_mk (Below.trod laidOut (by kernel_rfl) (of_decide_eq_true (by kernel_rfl)) k0 bel lt0) (trodAll_cons_mk (Below.trod laidOut (by kernel_rfl) (of_decide_eq_true (by kernel_rfl)) k1 bel lt1) trodAll_mk0)), rfl, bel.frame _, fun h => by cases h⟩
theorem over : Rows.fnBlocksRow.holds Try.pinned (OpenSpec.ofChange Rows.fnBlocksSpec) :=
 OpenClaim.holds_of_wide 11 Try.f11 rfl rfl rfl rfl rfl rfl rfl ⟨rfl, rfl, rfl, rfl, rfl⟩ rfl rfl rfl rfl rfl (by kernel_rfl) Try.func11 (by kernel_rfl)
  (of_decide_eq_true (by kernel_rfl)) (by unfold Func.isWrapper; first | (rw [if_pos (by decide +kernel)]; kernel_rfl) | (rw [if_neg (by decide +kernel)]; exact ⟨rfl, rfl⟩))
  (fun os started H enc _ => lifted os started H enc)
theorem proved : Rows.FnBlocksSaid := over
#print axioms proved
end Go.Proofs.Ytckboiphlhhckaa.fnBlocks
namespace Go.Proofs.Ytckboiphlhhckaa
theorem fnBlocks_holds : Rows.FnBlocksSaid := fnBlocks.proved
end Go.Proofs.Ytckboiphlhhckaa
