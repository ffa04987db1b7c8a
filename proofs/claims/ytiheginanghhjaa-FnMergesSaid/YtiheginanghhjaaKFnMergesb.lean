/- a merge of two branches answers as the statement says This text holds the functions' walks and the words for them. -/
import Derived.Laws.CopyRow
import Derived.Lib.SliceRun
import Derived.Lib.Overlaps
import Derived.Deep.RegionLaw
import Derived.Laws.Externs
import Derived.Lib.AppendZerosOnto
import Derived.Lib.Walk
import Derived.Shelf.Small.Bits
import Derived.Shelf.Small.Strs
import Derived.Shelf.Strconv.Itoa0
import Derived.Shelf.Sort.Plain
import Derived.Shelf.Slices.CompactS
import Derived.Shelf.Slices.Cells
import Derived.Shelf.Slices.In.SortNone
import Derived.Test.YtiheginanghhjaaProg
import Derived.Sort.OwnSorted
import Derived.Test.YtiheginanghhjaaKFnMergesa
set_option linter.unusedVariables false
set_option linter.unusedSimpArgs false
namespace Go.Proofs.Ytiheginanghhjaa.Q
open Go.RowKit Go.Proofs.YtiheginanghhjaaW.PrintWords Go.Proofs.YtiheginanghhjaaW.PrintLast Go.Proofs.YtiheginanghhjaaW.PrintMore
attribute [local go_sem] aP_ aQ_ bh_ bg_ aE_ aD_ aR_ aO_
def am_.l0 : Nat → List (S63) → List (S63) → Int → Int → Option (Bool)
 | 0, _, _, _, _ => none
 | k + 1, x0, x5, x6, x7 => if x7 < x6 then (if 0 ≤ x7 then (if x7 < (x5.length : Int) then ((cm_.f k ((af_ x5 x7).f0) ((af_ x5 x7).f1.f0) ((af_ x5 x7).f1.f1) ((af_ x5 x7).f1.f2)).bind fun t103 => (if t103 = true then (if x7 > 0 then (if 0 ≤ (wrap64 (x7 - 1)) then (if (wrap64 (x7 - 1)) < (x0.length : Int) then (if ((Op.bytesLess (((af_ x0 (wrap64 (x7 - 1))).f0).toList) (((af_ x5 x7).f0).toList)) = true) then (am_.l0 k x0 x5 x6 (wrap64 (x7 + 1))) else (some false)) else (none)) else (none)) else (am_.l0 k x0 x5 x6 (wrap64 (x7 + 1)))) else (some false))) else (none)) else (none)) else (some (decide ((x0.length : Int) ≤ 24)))
def am_.f (k : Nat) (l0 : List (S63)) : Option (Bool) := am_.l0 k l0 l0 (l0.length : Int) 0
def am_.T4 : Bool × List (List Nat × List Nat) := (true, [([], []), ([0], [0]), ([1], [1]), ([2, 1], [2]), ([3], [3]), ([4, 3], [3, 4]), ([5, 3, 3], [3, 5]), ([6], [6]), ([6], [6]), ([8, 6], [6, 8]), ([7, 9, 6], [6, 7, 9]), ([10, 6], [6, 10]), ([11, 6], [6, 11]), ([6], [6]), ([13, 6], [6, 13]), ([12, 14, 6], [6, 12, 14]), ([6, 15, 3], [3, 6, 15]), ([3, 16], [3, 16])])
def am_.B4 : List Nat := [0, 1, 3, 7, 15, 31, 63, 127, 127, 383, 1023, 2047, 4095, 127, 8319, 32767, 65535, 131071]
theorem am_.tab4 : rtab .any (opsOf Try.f39 4) = am_.T4 := by kernel_rfl
theorem am_.bits4 : waitsOk am_.T4.2 am_.B4 = true := by kernel_rfl
set_option maxHeartbeats 8000000 in
set_option maxRecDepth 100000 in
theorem am_.calls (k : Nat) (A0 : Option Addr) (c0 : Nat) (l0 : List (S63)) (r : Bool) (w : World) (hr0 : Kd.C k63 w A0 l0.length l0) (hc0 : l0.length ≤ c0) (h : am_.f k l0 = some r) :
  Calls Try.prog 39 #[.slice A0 l0.length c0] w fun e w' => e = .returned (.bool r) ∧ Below w.heap.size w w' := by
 have hu63 := Try.underlying63
 have HR0 := Aside0.mk hr0
 have HC0 := Aside0.mk hc0
 clear hr0 hc0
 have HB := Aside0.mk (Below.refl w.heap.size w)
 have H : (am_.l0 k l0 l0 (l0.length : Int) 0) = some r := h
 clear h
 have H' := Aside0.mk H
 clear H
 go_enter Try.func39, Try.ntmps39
 go_wp2
 (try simp only [Act.put, lsa_, ls0_, ls1_])
 go_loopg [7] k (fun kq v7 w' => ∃ (x7_1 : Int), v7 = .int .i64 x7_1 ∧ Aside0 (am_.l0 kq l0 l0 (l0.length : Int) x7_1 = some r) ∧ Aside0 (kq ≤ k) ∧ Aside0 (Below w.heap.size w w'))
 case atStart => exact ⟨(0), (by first | rfl | (simp; done) | (simp [*]; done)), H', ⟨Nat.le_refl _⟩, ⟨bz HB.out⟩⟩
 case round =>
  clear H'
  obtain ⟨x7_1, rfl, HA, HK1, HB⟩ := hrel
  cases gk with
  | zero => exact absurd HA.out (by simp [am_.l0])
  | succ k1 =>
   have H := HA.out
   clear HA
   simp only [am_.l0] at H
   by_cases c2 : x7_1 < (l0.length : Int)
   rotate_left
   ·rw [if_neg c2] at H
    have c2b0 : decide (x7_1 < (l0.length : Int)) = false := decide_eq_false c2
    clear c2
    obtain rfl := Option.some.inj H
    go_wp2
    go_ret
    exact ⟨by first | rfl | (simp [*, ao_, an_] <;> rfl), bz HB.out⟩
   rw [if_pos c2] at H
   have c2b0 : decide (x7_1 < (l0.length : Int)) = true := decide_eq_true c2
   clear c2
   by_cases c3 : 0 ≤ x7_1
   rotate_left
   ·rw [if_neg c3] at H
    exact absurd H (by simp)
   rw [if_pos c3] at H
   have c3b0 : decide (0 ≤ x7_1) = true := decide_eq_true c3
   clear c3
   by_cases c4 : x7_1 < (l0.length : Int)
   rotate_left
   ·rw [if_neg c4] at H
    exact absurd H (by simp)
   rw [if_pos c4] at H
   have c4b0 : decide (x7_1 < (l0.length : Int)) = true := decide_eq_true c4
   clear c4
   replace H := Option.bind_eq_some_iff.mp H
   obtain ⟨t103, A50, H⟩ := H
   (try dsimp only at H)
   have A5 := Aside0.mk A50
   clear A50
   by_cases c6 : t103 = true
   rotate_left
   ·replace c6 := Bool.eq_false_iff.mpr c6
    subst c6
    have H1 : (some false) = some r := by rw [if_neg (show ¬ (false = true) by decide)] at H; exact H
    clear H
    have H := H1
    clear H1
    obtain rfl := Option.some.inj H
    have p101 : 0 ≤ (x7_1 : Int) := of_decide_eq_true (by assumption)
    have q101 : x7_1 < (l0.length : Int) := of_decide_eq_true (by assumption)
    obtain ⟨ad101, e101, hx101_0, hx101_1, hx101_2, hx101_3⟩ := cH_ HR0.out x7_1 p101 q101
    cases e101
    replace hx101_0 := bu_ HB.out hx101_0
    replace hx101_1 := bu_ HB.out hx101_1
    replace hx101_2 := bu_ HB.out hx101_2
    replace hx101_3 := bu_ HB.out hx101_3
    replace p101 := eq_true p101
    replace q101 := eq_true q101
    try go_wp2_with (first | ((with_reducible refine aH_ (N := 4) rfl ?_); refine by_ ?hg (N := 4) ?hd (cs := #[.string (⟨#[]⟩ : ByteArray), .string (⟨#[]⟩ : ByteArray), .int .i64 0, .int .i64 0]) (t := 63) ?hr ?_; (case hd => rfl); (case hg => rfl); (case hr => (go_simp; try rfl)); intro gb102 hg w23 hbox hb; have BK102 := Aside0.mk (hbox); have GW102 := Aside0.mk ((by rw [hg]; exact (ae_ (bz HB.out)) : w.heap.size ≤ gb102)); have GE102 := GW102; replace HB := Aside0.mk (ac_ (bz HB.out) hb); clear hb hbox hg; obtain ⟨hcz24_0, hcz24_1, hcz24_2, hcz24_3⟩ := cz4_ BK102.out; obtain ⟨hfz24_0, hfz24_1, hfz24_2, hfz24_3⟩ := fz4_ BK102.out))
    have n0_ : Aside0 (((((w23.setCell ⟨gb102, 0, none⟩ (.string ((af_ l0 x7_1).f0))).setCell ⟨gb102, 1, none⟩ (.string ((af_ l0 x7_1).f1.f0))).setCell ⟨gb102, 2, none⟩ (.int .i64 ((af_ l0 x7_1).f1.f1))).setCell ⟨gb102, 3, none⟩ (.int .i64 ((af_ l0 x7_1).f1.f2))).heap[gb102]? = some (.cells #[.string ((af_ l0 x7_1).f0), .string ((af_ l0 x7_1).f1.f0), .int .i64 ((af_ l0 x7_1).f1.f1), .int .i64 ((af_ l0 x7_1).f1.f2)] 63 (0, 0))) := ⟨by exact kj4_3 (kj4_2 (kj4_1 (kj4_0 (kz BK102.out))))⟩
    have n1_ : Aside0 (Below w.heap.size w ((((w23.setCell ⟨gb102, 0, none⟩ (.string ((af_ l0 x7_1).f0))).setCell ⟨gb102, 1, none⟩ (.string ((af_ l0 x7_1).f1.f0))).setCell ⟨gb102, 2, none⟩ (.int .i64 ((af_ l0 x7_1).f1.f1))).setCell ⟨gb102, 3, none⟩ (.int .i64 ((af_ l0 x7_1).f1.f2)))) := ⟨bq⟩
    (try clear BK102)
    (try clear HB)
    generalize ((((w23.setCell ⟨gb102, 0, none⟩ (.string ((af_ l0 x7_1).f0))).setCell ⟨gb102, 1, none⟩ (.string ((af_ l0 x7_1).f1.f0))).setCell ⟨gb102, 2, none⟩ (.int .i64 ((af_ l0 x7_1).f1.f1))).setCell ⟨gb102, 3, none⟩ (.int .i64 ((af_ l0 x7_1).f1.f2))) = w25 at n0_ n1_ ⊢
    have BK102 := n0_
    have HB := n1_
    clear n0_ n1_
    have n0_ := Aside0.mk (cP_ BK102.out)
    have n1_ := Aside0.mk (bD_ HB.out)
    clear BK102
    clear HB
    have BK102 := n0_
    have HB := n1_
    clear n0_ n1_
    refine start_ (n := 18) (S := fun w' => w'.cell? ⟨gb102, 0, none⟩ = some (.string ((af_ l0 x7_1).f0)) ∧ w'.cell? ⟨gb102, 1, none⟩ = some (.string ((af_ l0 x7_1).f1.f0)) ∧ w'.cell? ⟨gb102, 2, none⟩ = some (.int .i64 ((af_ l0 x7_1).f1.f1)) ∧ w'.cell? ⟨gb102, 3, none⟩ = some (.int .i64 ((af_ l0 x7_1).f1.f2))) (ds := []) #[f_,f_,f_,f_,f_,f_,f_,f_,f_,f_,f_,f_,f_,f_,f_,f_,f_,f_] (by kernel_rfl) rfl rfl ⟨(aY_ BK102.out 0).trans rfl, (aY_ BK102.out 1).trans rfl, (aY_ BK102.out 2).trans rfl, (aY_ BK102.out 3).trans rfl⟩ (fun hHeld => ?_); refine dj_ am_.tab4 am_.bits4 (fun HT_ HW_ => ?_)
    generalize w25.drew = w26 at BK102 HB hHeld ⊢
    refine tk 0 12 #[t_,f_,f_,f_,f_,f_,f_,f_,f_,f_,f_,f_,f_,f_,f_,f_,f_,f_] HT_ HW_ hHeld ?_ (hv := by rintro w' ⟨s0, s1, s2, s3⟩; go_simp; with_reducible rfl)
    refine one_ (i := 1) (N := some 13) #[t_,t_,f_,f_,f_,f_,f_,f_,f_,f_,f_,f_,f_,f_,f_,f_,f_,f_] rfl rfl (dl_ HT_.out (by kernel_rfl)) (by decide) (fun K hK => ?_)
    (first | refine goes_ Try.func69 (by kernel_rfl) rfl #[.agg #[.string ((af_ l0 x7_1).f0), .string ((af_ l0 x7_1).f1.f0), .int .i64 ((af_ l0 x7_1).f1.f1), .int .i64 ((af_ l0 x7_1).f1.f2)]] (by rfl) rfl rfl (by first | rfl | (simp only [lma_, lmc_, lmn_]; first | done | rfl)) ?_ | refine RPW.dc_ Try.func69 (by kernel_rfl) rfl #[.agg #[.string ((af_ l0 x7_1).f0), .string ((af_ l0 x7_1).f1.f0), .int .i64 ((af_ l0 x7_1).f1.f1), .int .i64 ((af_ l0 x7_1).f1.f2)]] (by rfl) rfl rfl rfl (by first | rfl | (simp only [lma_, lmc_, lmn_]; first | done | rfl)) ?_ | refine RPW.dd_ Try.func69 (by kernel_rfl) rfl #[.agg #[.string ((af_ l0 x7_1).f0), .string ((af_ l0 x7_1).f1.f0), .int .i64 ((af_ l0 x7_1).f1.f1), .int .i64 ((af_ l0 x7_1).f1.f2)]] (by rfl) rfl rfl rfl (by first | rfl | (simp only [lma_, lmc_, lmn_]; first | done | rfl)) ?_)
    with_reducible refine (cm_.calls k1 ((af_ l0 x7_1).f0) ((af_ l0 x7_1).f1.f0) ((af_ l0 x7_1).f1.f1) ((af_ l0 x7_1).f1.f2) false _ A5.out).mono ?_
    rintro e w27 ⟨rfl, hb⟩
    refine ⟨_, rfl, ?_⟩
    have n0_ := Aside0.mk (bb_ (kz BK102.out) hb)
    have n1_ := Aside0.mk (ac_ (bq) hb)
    clear BK102
    clear HB
    have BK102 := n0_
    have HB := n1_
    clear n0_ n1_
    (try clear hb)
    refine hK.out _ _ ⟨(aY_ BK102.out 0).trans rfl, (aY_ BK102.out 1).trans rfl, (aY_ BK102.out 2).trans rfl, (aY_ BK102.out 3).trans rfl⟩ (fun hHeld => ?_)
    clear hK K
    refine norm_ (a' := ?_) ?_ ?_
    rotate_left
    ·show Act.put _ (some 13) _ = _
     simp only [Act.put, lsa_, ls0_, ls1_, i64_w, i32_w]
     rfl
    refine pu 2 14 #[t_,t_,t_,f_,f_,f_,f_,f_,f_,f_,f_,f_,f_,f_,f_,f_,f_,f_] HT_ ?_
    refine pu 3 15 #[t_,t_,t_,t_,f_,f_,f_,f_,f_,f_,f_,f_,f_,f_,f_,f_,f_,f_] HT_ ?_
    refine pn 4 16 #[t_,t_,t_,t_,t_,f_,f_,f_,f_,f_,f_,f_,f_,f_,f_,f_,f_,f_] HT_ ?_
    refine pn 5 17 #[t_,t_,t_,t_,t_,t_,f_,f_,f_,f_,f_,f_,f_,f_,f_,f_,f_,f_] HT_ ?_
    refine pn 6 18 #[t_,t_,t_,t_,t_,t_,t_,f_,f_,f_,f_,f_,f_,f_,f_,f_,f_,f_] HT_ ?_
    refine pn 7 19 #[t_,t_,t_,t_,t_,t_,t_,t_,f_,f_,f_,f_,f_,f_,f_,f_,f_,f_] HT_ ?_
    refine pn 8 20 #[t_,t_,t_,t_,t_,t_,t_,t_,t_,f_,f_,f_,f_,f_,f_,f_,f_,f_] HT_ ?_
    refine pn 9 21 #[t_,t_,t_,t_,t_,t_,t_,t_,t_,t_,f_,f_,f_,f_,f_,f_,f_,f_] HT_ ?_
    refine pn 10 22 #[t_,t_,t_,t_,t_,t_,t_,t_,t_,t_,t_,f_,f_,f_,f_,f_,f_,f_] HT_ ?_
    refine pn 11 23 #[t_,t_,t_,t_,t_,t_,t_,t_,t_,t_,t_,t_,f_,f_,f_,f_,f_,f_] HT_ ?_
    refine pn 12 24 #[t_,t_,t_,t_,t_,t_,t_,t_,t_,t_,t_,t_,t_,f_,f_,f_,f_,f_] HT_ ?_
    refine pn 13 25 #[t_,t_,t_,t_,t_,t_,t_,t_,t_,t_,t_,t_,t_,t_,f_,f_,f_,f_] HT_ ?_
    refine pn 14 26 #[t_,t_,t_,t_,t_,t_,t_,t_,t_,t_,t_,t_,t_,t_,t_,f_,f_,f_] HT_ ?_
    refine pn 15 27 #[t_,t_,t_,t_,t_,t_,t_,t_,t_,t_,t_,t_,t_,t_,t_,t_,f_,f_] HT_ ?_
    refine pn 16 28 #[t_,t_,t_,t_,t_,t_,t_,t_,t_,t_,t_,t_,t_,t_,t_,t_,t_,f_] HT_ ?_
    refine pu 17 29 #[t_,t_,t_,t_,t_,t_,t_,t_,t_,t_,t_,t_,t_,t_,t_,t_,t_,t_] HT_ ?_
    refine done_ (done_of HT_.out (by kernel_rfl)) ?_
    try go_wp2
    go_ret
    exact ⟨by first | rfl | (simp [*, ao_, an_] <;> rfl), bq⟩
   subst c6
   have H1 : (if x7_1 > 0 then (if 0 ≤ (wrap64 (x7_1 - 1)) then (if (wrap64 (x7_1 - 1)) < (l0.length : Int) then (if ((Op.bytesLess (((af_ l0 (wrap64 (x7_1 - 1))).f0).toList) (((af_ l0 x7_1).f0).toList)) = true) then (am_.l0 k1 l0 l0 (l0.length : Int) (wrap64 (x7_1 + 1))) else (some false)) else (none)) else (none)) else (am_.l0 k1 l0 l0 (l0.length : Int) (wrap64 (x7_1 + 1)))) = some r := by rw [if_pos rfl] at H; exact H
   clear H
   have H := H1
   clear H1
   by_cases c7 : x7_1 > 0
   rotate_left
   ·rw [if_neg c7] at H
    have c7b0 : decide (0 < x7_1) = false := decide_eq_false c7
    clear c7
    have H' := Aside0.mk H
    clear H
    have p101 : 0 ≤ (x7_1 : Int) := of_decide_eq_true (by assumption)
    have q101 : x7_1 < (l0.length : Int) := of_decide_eq_true (by assumption)
    obtain ⟨ad101, e101, hx101_0, hx101_1, hx101_2, hx101_3⟩ := cH_ HR0.out x7_1 p101 q101
    cases e101
    replace hx101_0 := bu_ HB.out hx101_0
    replace hx101_1 := bu_ HB.out hx101_1
    replace hx101_2 := bu_ HB.out hx101_2
    replace hx101_3 := bu_ HB.out hx101_3
    replace p101 := eq_true p101
    replace q101 := eq_true q101
    try go_wp2_with (first | ((with_reducible refine aH_ (N := 4) rfl ?_); refine by_ ?hg (N := 4) ?hd (cs := #[.string (⟨#[]⟩ : ByteArray), .string (⟨#[]⟩ : ByteArray), .int .i64 0, .int .i64 0]) (t := 63) ?hr ?_; (case hd => rfl); (case hg => rfl); (case hr => (go_simp; try rfl)); intro gb102 hg w18 hbox hb; have BK102 := Aside0.mk (hbox); have GW102 := Aside0.mk ((by rw [hg]; exact (ae_ (bz HB.out)) : w.heap.size ≤ gb102)); have GE102 := GW102; replace HB := Aside0.mk (ac_ (bz HB.out) hb); clear hb hbox hg; obtain ⟨hcz19_0, hcz19_1, hcz19_2, hcz19_3⟩ := cz4_ BK102.out; obtain ⟨hfz19_0, hfz19_1, hfz19_2, hfz19_3⟩ := fz4_ BK102.out))
    have n0_ : Aside0 (((((w18.setCell ⟨gb102, 0, none⟩ (.string ((af_ l0 x7_1).f0))).setCell ⟨gb102, 1, none⟩ (.string ((af_ l0 x7_1).f1.f0))).setCell ⟨gb102, 2, none⟩ (.int .i64 ((af_ l0 x7_1).f1.f1))).setCell ⟨gb102, 3, none⟩ (.int .i64 ((af_ l0 x7_1).f1.f2))).heap[gb102]? = some (.cells #[.string ((af_ l0 x7_1).f0), .string ((af_ l0 x7_1).f1.f0), .int .i64 ((af_ l0 x7_1).f1.f1), .int .i64 ((af_ l0 x7_1).f1.f2)] 63 (0, 0))) := ⟨by exact kj4_3 (kj4_2 (kj4_1 (kj4_0 (kz BK102.out))))⟩
    have n1_ : Aside0 (Below w.heap.size w ((((w18.setCell ⟨gb102, 0, none⟩ (.string ((af_ l0 x7_1).f0))).setCell ⟨gb102, 1, none⟩ (.string ((af_ l0 x7_1).f1.f0))).setCell ⟨gb102, 2, none⟩ (.int .i64 ((af_ l0 x7_1).f1.f1))).setCell ⟨gb102, 3, none⟩ (.int .i64 ((af_ l0 x7_1).f1.f2)))) := ⟨bq⟩
    (try clear BK102)
    (try clear HB)
    generalize ((((w18.setCell ⟨gb102, 0, none⟩ (.string ((af_ l0 x7_1).f0))).setCell ⟨gb102, 1, none⟩ (.string ((af_ l0 x7_1).f1.f0))).setCell ⟨gb102, 2, none⟩ (.int .i64 ((af_ l0 x7_1).f1.f1))).setCell ⟨gb102, 3, none⟩ (.int .i64 ((af_ l0 x7_1).f1.f2))) = w20 at n0_ n1_ ⊢
    have BK102 := n0_
    have HB := n1_
    clear n0_ n1_
    have n0_ := Aside0.mk (cP_ BK102.out)
    have n1_ := Aside0.mk (bD_ HB.out)
    clear BK102
    clear HB
    have BK102 := n0_
    have HB := n1_
    clear n0_ n1_
    refine start_ (n := 18) (S := fun w' => w'.cell? ⟨gb102, 0, none⟩ = some (.string ((af_ l0 x7_1).f0)) ∧ w'.cell? ⟨gb102, 1, none⟩ = some (.string ((af_ l0 x7_1).f1.f0)) ∧ w'.cell? ⟨gb102, 2, none⟩ = some (.int .i64 ((af_ l0 x7_1).f1.f1)) ∧ w'.cell? ⟨gb102, 3, none⟩ = some (.int .i64 ((af_ l0 x7_1).f1.f2))) (ds := []) #[f_,f_,f_,f_,f_,f_,f_,f_,f_,f_,f_,f_,f_,f_,f_,f_,f_,f_] (by kernel_rfl) rfl rfl ⟨(aY_ BK102.out 0).trans rfl, (aY_ BK102.out 1).trans rfl, (aY_ BK102.out 2).trans rfl, (aY_ BK102.out 3).trans rfl⟩ (fun hHeld => ?_); refine dj_ am_.tab4 am_.bits4 (fun HT_ HW_ => ?_)
    generalize w20.drew = w21 at BK102 HB hHeld ⊢
    refine tk 0 12 #[t_,f_,f_,f_,f_,f_,f_,f_,f_,f_,f_,f_,f_,f_,f_,f_,f_,f_] HT_ HW_ hHeld ?_ (hv := by rintro w' ⟨s0, s1, s2, s3⟩; go_simp; with_reducible rfl)
    refine one_ (i := 1) (N := some 13) #[t_,t_,f_,f_,f_,f_,f_,f_,f_,f_,f_,f_,f_,f_,f_,f_,f_,f_] rfl rfl (dl_ HT_.out (by kernel_rfl)) (by decide) (fun K hK => ?_)
    (first | refine goes_ Try.func69 (by kernel_rfl) rfl #[.agg #[.string ((af_ l0 x7_1).f0), .string ((af_ l0 x7_1).f1.f0), .int .i64 ((af_ l0 x7_1).f1.f1), .int .i64 ((af_ l0 x7_1).f1.f2)]] (by rfl) rfl rfl (by first | rfl | (simp only [lma_, lmc_, lmn_]; first | done | rfl)) ?_ | refine RPW.dc_ Try.func69 (by kernel_rfl) rfl #[.agg #[.string ((af_ l0 x7_1).f0), .string ((af_ l0 x7_1).f1.f0), .int .i64 ((af_ l0 x7_1).f1.f1), .int .i64 ((af_ l0 x7_1).f1.f2)]] (by rfl) rfl rfl rfl (by first | rfl | (simp only [lma_, lmc_, lmn_]; first | done | rfl)) ?_ | refine RPW.dd_ Try.func69 (by kernel_rfl) rfl #[.agg #[.string ((af_ l0 x7_1).f0), .string ((af_ l0 x7_1).f1.f0), .int .i64 ((af_ l0 x7_1).f1.f1), .int .i64 ((af_ l0 x7_1).f1.f2)]] (by rfl) rfl rfl rfl (by first | rfl | (simp only [lma_, lmc_, lmn_]; first | done | rfl)) ?_)
    with_reducible refine (cm_.calls k1 ((af_ l0 x7_1).f0) ((af_ l0 x7_1).f1.f0) ((af_ l0 x7_1).f1.f1) ((af_ l0 x7_1).f1.f2) true _ A5.out).mono ?_
    rintro e w22 ⟨rfl, hb⟩
    refine ⟨_, rfl, ?_⟩
    have n0_ := Aside0.mk (bb_ (kz BK102.out) hb)
    have n1_ := Aside0.mk (ac_ (bq) hb)
    clear BK102
    clear HB
    have BK102 := n0_
    have HB := n1_
    clear n0_ n1_
    (try clear hb)
    refine hK.out _ _ ⟨(aY_ BK102.out 0).trans rfl, (aY_ BK102.out 1).trans rfl, (aY_ BK102.out 2).trans rfl, (aY_ BK102.out 3).trans rfl⟩ (fun hHeld => ?_)
    clear hK K
    refine norm_ (a' := ?_) ?_ ?_
    rotate_left
    ·show Act.put _ (some 13) _ = _
     simp only [Act.put, lsa_, ls0_, ls1_, i64_w, i32_w]
     rfl
    refine pu 2 14 #[t_,t_,t_,f_,f_,f_,f_,f_,f_,f_,f_,f_,f_,f_,f_,f_,f_,f_] HT_ ?_
    refine pu 3 15 #[t_,t_,t_,t_,f_,f_,f_,f_,f_,f_,f_,f_,f_,f_,f_,f_,f_,f_] HT_ ?_
    refine pu 4 16 #[t_,t_,t_,t_,t_,f_,f_,f_,f_,f_,f_,f_,f_,f_,f_,f_,f_,f_] HT_ ?_
    refine pu 5 17 #[t_,t_,t_,t_,t_,t_,f_,f_,f_,f_,f_,f_,f_,f_,f_,f_,f_,f_] HT_ ?_
    refine pu 6 18 #[t_,t_,t_,t_,t_,t_,t_,f_,f_,f_,f_,f_,f_,f_,f_,f_,f_,f_] HT_ ?_
    refine pn 7 19 #[t_,t_,t_,t_,t_,t_,t_,t_,f_,f_,f_,f_,f_,f_,f_,f_,f_,f_] HT_ ?_
    refine pn 8 20 #[t_,t_,t_,t_,t_,t_,t_,t_,t_,f_,f_,f_,f_,f_,f_,f_,f_,f_] HT_ ?_
    refine pn 9 21 #[t_,t_,t_,t_,t_,t_,t_,t_,t_,t_,f_,f_,f_,f_,f_,f_,f_,f_] HT_ ?_
    refine pn 10 22 #[t_,t_,t_,t_,t_,t_,t_,t_,t_,t_,t_,f_,f_,f_,f_,f_,f_,f_] HT_ ?_
    refine pn 11 23 #[t_,t_,t_,t_,t_,t_,t_,t_,t_,t_,t_,t_,f_,f_,f_,f_,f_,f_] HT_ ?_
    refine pn 12 24 #[t_,t_,t_,t_,t_,t_,t_,t_,t_,t_,t_,t_,t_,f_,f_,f_,f_,f_] HT_ ?_
    refine pn 13 25 #[t_,t_,t_,t_,t_,t_,t_,t_,t_,t_,t_,t_,t_,t_,f_,f_,f_,f_] HT_ ?_
    refine pn 14 26 #[t_,t_,t_,t_,t_,t_,t_,t_,t_,t_,t_,t_,t_,t_,t_,f_,f_,f_] HT_ ?_
    refine pn 15 27 #[t_,t_,t_,t_,t_,t_,t_,t_,t_,t_,t_,t_,t_,t_,t_,t_,f_,f_] HT_ ?_
    refine pu 16 28 #[t_,t_,t_,t_,t_,t_,t_,t_,t_,t_,t_,t_,t_,t_,t_,t_,t_,f_] HT_ ?_
    refine pu 17 29 #[t_,t_,t_,t_,t_,t_,t_,t_,t_,t_,t_,t_,t_,t_,t_,t_,t_,t_] HT_ ?_
    refine done_ (done_of HT_.out (by kernel_rfl)) ?_
    try go_wp2
    go_roundg k1
    case measure => have := HK1.out; omega
    case rel => exact ⟨(wrap64 (x7_1 + 1)), (by first | rfl | (simp; done) | (simp [*]; done)), H', ⟨by have := HK1.out; omega⟩, ⟨bq⟩⟩
   rw [if_pos c7] at H
   have c7b0 : decide (0 < x7_1) = true := decide_eq_true c7
   clear c7
   obtain ⟨ji8, hji8⟩ : ∃ j_ : Int, (wrap64 (x7_1 - 1)) = j_ := ⟨_, rfl⟩
   replace H : (if 0 ≤ (ji8) then (if (ji8) < (l0.length : Int) then (if ((Op.bytesLess (((af_ l0 (ji8)).f0).toList) (((af_ l0 x7_1).f0).toList)) = true) then (am_.l0 k1 l0 l0 (l0.length : Int) (wrap64 (x7_1 + 1))) else (some false)) else (none)) else (none)) = some r := by first | (rw [hji8] at H; exact H) | (simp only [hji8] at H ⊢; exact H)
   (try rw [hji8] at A5)
   have hji8w : (IntKind.i64.wrap (x7_1 - 1)) = ji8 := (i64_w _).trans hji8
   by_cases c9 : 0 ≤ (ji8)
   rotate_left
   ·rw [if_neg c9] at H
    exact absurd H (by simp)
   rw [if_pos c9] at H
   have c9b0 : decide (0 ≤ (ji8)) = true := decide_eq_true c9
   clear c9
   by_cases c10 : (ji8) < (l0.length : Int)
   rotate_left
   ·rw [if_neg c10] at H
    exact absurd H (by simp)
   rw [if_pos c10] at H
   have c10b0 : decide ((ji8) < (l0.length : Int)) = true := decide_eq_true c10
   clear c10
   have HC11 := Aside0.mk H
   clear H
   have p101 : 0 ≤ (x7_1 : Int) := of_decide_eq_true (by assumption)
   have q101 : x7_1 < (l0.length : Int) := of_decide_eq_true (by assumption)
   obtain ⟨ad101, e101, hx101_0, hx101_1, hx101_2, hx101_3⟩ := cH_ HR0.out x7_1 p101 q101
   cases e101
   replace hx101_0 := bu_ HB.out hx101_0
   replace hx101_1 := bu_ HB.out hx101_1
   replace hx101_2 := bu_ HB.out hx101_2
   replace hx101_3 := bu_ HB.out hx101_3
   replace p101 := eq_true p101
   replace q101 := eq_true q101
   try go_wp2_with (first | ((with_reducible refine aH_ (N := 4) rfl ?_); refine by_ ?hg (N := 4) ?hd (cs := #[.string (⟨#[]⟩ : ByteArray), .string (⟨#[]⟩ : ByteArray), .int .i64 0, .int .i64 0]) (t := 63) ?hr ?_; (case hd => rfl); (case hg => rfl); (case hr => (go_simp; try rfl)); intro gb102 hg w12 hbox hb; have BK102 := Aside0.mk (hbox); have GW102 := Aside0.mk ((by rw [hg]; exact (ae_ (bz HB.out)) : w.heap.size ≤ gb102)); have GE102 := GW102; replace HB := Aside0.mk (ac_ (bz HB.out) hb); clear hb hbox hg; obtain ⟨hcz13_0, hcz13_1, hcz13_2, hcz13_3⟩ := cz4_ BK102.out; obtain ⟨hfz13_0, hfz13_1, hfz13_2, hfz13_3⟩ := fz4_ BK102.out))
   have n0_ : Aside0 (((((w12.setCell ⟨gb102, 0, none⟩ (.string ((af_ l0 x7_1).f0))).setCell ⟨gb102, 1, none⟩ (.string ((af_ l0 x7_1).f1.f0))).setCell ⟨gb102, 2, none⟩ (.int .i64 ((af_ l0 x7_1).f1.f1))).setCell ⟨gb102, 3, none⟩ (.int .i64 ((af_ l0 x7_1).f1.f2))).heap[gb102]? = some (.cells #[.string ((af_ l0 x7_1).f0), .string ((af_ l0 x7_1).f1.f0), .int .i64 ((af_ l0 x7_1).f1.f1), .int .i64 ((af_ l0 x7_1).f1.f2)] 63 (0, 0))) := ⟨by exact kj4_3 (kj4_2 (kj4_1 (kj4_0 (kz BK102.out))))⟩
   have n1_ : Aside0 (Below w.heap.size w ((((w12.setCell ⟨gb102, 0, none⟩ (.string ((af_ l0 x7_1).f0))).setCell ⟨gb102, 1, none⟩ (.string ((af_ l0 x7_1).f1.f0))).setCell ⟨gb102, 2, none⟩ (.int .i64 ((af_ l0 x7_1).f1.f1))).setCell ⟨gb102, 3, none⟩ (.int .i64 ((af_ l0 x7_1).f1.f2)))) := ⟨bq⟩
   (try clear BK102)
   (try clear HB)
   generalize ((((w12.setCell ⟨gb102, 0, none⟩ (.string ((af_ l0 x7_1).f0))).setCell ⟨gb102, 1, none⟩ (.string ((af_ l0 x7_1).f1.f0))).setCell ⟨gb102, 2, none⟩ (.int .i64 ((af_ l0 x7_1).f1.f1))).setCell ⟨gb102, 3, none⟩ (.int .i64 ((af_ l0 x7_1).f1.f2))) = w14 at n0_ n1_ ⊢
   have BK102 := n0_
   have HB := n1_
   clear n0_ n1_
   have n0_ := Aside0.mk (cP_ BK102.out)
   have n1_ := Aside0.mk (bD_ HB.out)
   clear BK102
   clear HB
   have BK102 := n0_
   have HB := n1_
   clear n0_ n1_
   have p104 : 0 ≤ ((ji8) : Int) := of_decide_eq_true (by assumption)
   have q104 : (ji8) < (l0.length : Int) := of_decide_eq_true (by assumption)
   obtain ⟨ad104, e104, hx104_0, hx104_1, hx104_2, hx104_3⟩ := cH_ HR0.out (ji8) p104 q104
   have hw104_3 := hx104_3
   have hw104_2 := hx104_2
   have hw104_1 := hx104_1
   have hw104_0 := hx104_0
   obtain rfl : ad101 = ad104 := (by injection e104)
   replace hx104_0 := bu_ HB.out hx104_0
   replace hx104_1 := bu_ HB.out hx104_1
   replace hx104_2 := bu_ HB.out hx104_2
   replace hx104_3 := bu_ HB.out hx104_3
   replace p104 := eq_true p104
   replace q104 := eq_true q104
   refine start_ (n := 18) (S := fun w' => w'.cell? ⟨gb102, 0, none⟩ = some (.string ((af_ l0 x7_1).f0)) ∧ w'.cell? ⟨gb102, 1, none⟩ = some (.string ((af_ l0 x7_1).f1.f0)) ∧ w'.cell? ⟨gb102, 2, none⟩ = some (.int .i64 ((af_ l0 x7_1).f1.f1)) ∧ w'.cell? ⟨gb102, 3, none⟩ = some (.int .i64 ((af_ l0 x7_1).f1.f2)) ∧ w'.cell? (ad101.add (((ji8)).toNat * 4)) = some (.string ((af_ l0 (ji8)).f0)) ∧ w'.cell? ⟨(ad101.add (((ji8)).toNat * 4)).block, (ad101.add (((ji8)).toNat * 4)).off + 1, none⟩ = some (.string ((af_ l0 (ji8)).f1.f0)) ∧ w'.cell? ⟨(ad101.add (((ji8)).toNat * 4)).block, (ad101.add (((ji8)).toNat * 4)).off + 2, none⟩ = some (.int .i64 ((af_ l0 (ji8)).f1.f1)) ∧ w'.cell? ⟨(ad101.add (((ji8)).toNat * 4)).block, (ad101.add (((ji8)).toNat * 4)).off + 3, none⟩ = some (.int .i64 ((af_ l0 (ji8)).f1.f2))) (ds := []) #[f_,f_,f_,f_,f_,f_,f_,f_,f_,f_,f_,f_,f_,f_,f_,f_,f_,f_] (by kernel_rfl) rfl rfl ⟨(aY_ BK102.out 0).trans rfl, (aY_ BK102.out 1).trans rfl, (aY_ BK102.out 2).trans rfl, (aY_ BK102.out 3).trans rfl, (bv_ HB.out hw104_0), (bv_ HB.out hw104_1), (bv_ HB.out hw104_2), (bv_ HB.out hw104_3)⟩ (fun hHeld => ?_); refine dj_ am_.tab4 am_.bits4 (fun HT_ HW_ => ?_)
   generalize w14.drew = w15 at BK102 HB hx104_0 hx104_1 hx104_2 hx104_3 hHeld ⊢
   refine tk 0 12 #[t_,f_,f_,f_,f_,f_,f_,f_,f_,f_,f_,f_,f_,f_,f_,f_,f_,f_] HT_ HW_ hHeld ?_ (hv := by rintro w' ⟨s0, s1, s2, s3, s4, s5, s6, s7⟩; go_simp; with_reducible rfl)
   refine one_ (i := 1) (N := some 13) #[t_,t_,f_,f_,f_,f_,f_,f_,f_,f_,f_,f_,f_,f_,f_,f_,f_,f_] rfl rfl (dl_ HT_.out (by kernel_rfl)) (by decide) (fun K hK => ?_)
   (first | refine goes_ Try.func69 (by kernel_rfl) rfl #[.agg #[.string ((af_ l0 x7_1).f0), .string ((af_ l0 x7_1).f1.f0), .int .i64 ((af_ l0 x7_1).f1.f1), .int .i64 ((af_ l0 x7_1).f1.f2)]] (by rfl) rfl rfl (by first | rfl | (simp only [lma_, lmc_, lmn_]; first | done | rfl)) ?_ | refine RPW.dc_ Try.func69 (by kernel_rfl) rfl #[.agg #[.string ((af_ l0 x7_1).f0), .string ((af_ l0 x7_1).f1.f0), .int .i64 ((af_ l0 x7_1).f1.f1), .int .i64 ((af_ l0 x7_1).f1.f2)]] (by rfl) rfl rfl rfl (by first | rfl | (simp only [lma_, lmc_, lmn_]; first | done | rfl)) ?_ | refine RPW.dd_ Try.func69 (by kernel_rfl) rfl #[.agg #[.string ((af_ l0 x7_1).f0), .string ((af_ l0 x7_1).f1.f0), .int .i64 ((af_ l0 x7_1).f1.f1), .int .i64 ((af_ l0 x7_1).f1.f2)]] (by rfl) rfl rfl rfl (by first | rfl | (simp only [lma_, lmc_, lmn_]; first | done | rfl)) ?_)
   with_reducible refine (cm_.calls k1 ((af_ l0 x7_1).f0) ((af_ l0 x7_1).f1.f0) ((af_ l0 x7_1).f1.f1) ((af_ l0 x7_1).f1.f2) true _ A5.out).mono ?_
   rintro e w16 ⟨rfl, hb⟩
   refine ⟨_, rfl, ?_⟩
   have n0_ := Aside0.mk (bb_ (kz BK102.out) hb)
   have n1_ := Aside0.mk (ac_ (bq) hb)
   clear BK102
   clear HB
   have BK102 := n0_
   have HB := n1_
   clear n0_ n1_
   (try clear hb)
   refine hK.out _ _ ⟨(aY_ BK102.out 0).trans rfl, (aY_ BK102.out 1).trans rfl, (aY_ BK102.out 2).trans rfl, (aY_ BK102.out 3).trans rfl, (bv_ HB.out hw104_0), (bv_ HB.out hw104_1), (bv_ HB.out hw104_2), (bv_ HB.out hw104_3)⟩ (fun hHeld => ?_)
   clear hK K
   refine norm_ (a' := ?_) ?_ ?_
   rotate_left
   ·show Act.put _ (some 13) _ = _
    simp only [Act.put, lsa_, ls0_, ls1_, i64_w, i32_w]
    rfl
   refine pu 2 14 #[t_,t_,t_,f_,f_,f_,f_,f_,f_,f_,f_,f_,f_,f_,f_,f_,f_,f_] HT_ ?_
   refine pu 3 15 #[t_,t_,t_,t_,f_,f_,f_,f_,f_,f_,f_,f_,f_,f_,f_,f_,f_,f_] HT_ ?_
   refine pu 4 16 #[t_,t_,t_,t_,t_,f_,f_,f_,f_,f_,f_,f_,f_,f_,f_,f_,f_,f_] HT_ ?_
   refine pu 5 17 #[t_,t_,t_,t_,t_,t_,f_,f_,f_,f_,f_,f_,f_,f_,f_,f_,f_,f_] HT_ ?_
   refine pu 6 18 #[t_,t_,t_,t_,t_,t_,t_,f_,f_,f_,f_,f_,f_,f_,f_,f_,f_,f_] HT_ ?_
   refine pu 7 19 #[t_,t_,t_,t_,t_,t_,t_,t_,f_,f_,f_,f_,f_,f_,f_,f_,f_,f_] HT_ ?_
   refine pu 8 20 #[t_,t_,t_,t_,t_,t_,t_,t_,t_,f_,f_,f_,f_,f_,f_,f_,f_,f_] HT_ ?_
   refine pu 9 21 #[t_,t_,t_,t_,t_,t_,t_,t_,t_,t_,f_,f_,f_,f_,f_,f_,f_,f_] HT_ ?_
   refine pu 10 22 #[t_,t_,t_,t_,t_,t_,t_,t_,t_,t_,t_,f_,f_,f_,f_,f_,f_,f_] HT_ ?_
   refine pu 11 23 #[t_,t_,t_,t_,t_,t_,t_,t_,t_,t_,t_,t_,f_,f_,f_,f_,f_,f_] HT_ ?_
   refine pu 13 25 #[t_,t_,t_,t_,t_,t_,t_,t_,t_,t_,t_,t_,f_,t_,f_,f_,f_,f_] HT_ ?_
   refine tk 12 24 #[t_,t_,t_,t_,t_,t_,t_,t_,t_,t_,t_,t_,t_,t_,f_,f_,f_,f_] HT_ HW_ hHeld ?_ (hv := by rintro w' ⟨s0, s1, s2, s3, s4, s5, s6, s7⟩; go_simp; with_reducible rfl)
   refine tk 14 26 #[t_,t_,t_,t_,t_,t_,t_,t_,t_,t_,t_,t_,t_,t_,t_,f_,f_,f_] HT_ HW_ hHeld ?_ (hv := by rintro w' ⟨s0, s1, s2, s3, s4, s5, s6, s7⟩; go_simp; with_reducible rfl)
   refine pu 15 27 #[t_,t_,t_,t_,t_,t_,t_,t_,t_,t_,t_,t_,t_,t_,t_,t_,f_,f_] HT_ ?_
   refine pu 16 28 #[t_,t_,t_,t_,t_,t_,t_,t_,t_,t_,t_,t_,t_,t_,t_,t_,t_,f_] HT_ ?_
   refine pu 17 29 #[t_,t_,t_,t_,t_,t_,t_,t_,t_,t_,t_,t_,t_,t_,t_,t_,t_,t_] HT_ ?_
   refine done_ (done_of HT_.out (by kernel_rfl)) ?_
   go_upto_if 29 with (fail)
   have H := HC11.out
   clear HC11
   by_cases c17 : ((Op.bytesLess (((af_ l0 (ji8)).f0).toList) (((af_ l0 x7_1).f0).toList)) = true)
   rotate_left
   ·rw [if_neg c17] at H
    have c17b0 : (Op.bytesLess (((af_ l0 (ji8)).f0).toList) (((af_ l0 x7_1).f0).toList)) = false := by simpa using c17
    clear c17
    (first | rw [c17b0] | (simp only [i64_w, i32_w]; rw [c17b0]) | (simp only [c17b1, Bool.not_true, Bool.not_false]) | (simp only [c17b0, Bool.not_true, Bool.not_false]) | skip)
    obtain rfl := Option.some.inj H
    go_wp2
    go_ret
    exact ⟨by first | rfl | (simp [ao_, an_] <;> rfl) | (simp only [← hji8]; first | rfl | (simp [ao_, an_] <;> rfl)) | (simp [*, ao_, an_] <;> rfl), bq⟩
   rw [if_pos c17] at H
   have c17b0 : (Op.bytesLess (((af_ l0 (ji8)).f0).toList) (((af_ l0 x7_1).f0).toList)) = true := c17
   clear c17
   (first | rw [c17b0] | (simp only [i64_w, i32_w]; rw [c17b0]) | (simp only [c17b1, Bool.not_true, Bool.not_false]) | (simp only [c17b0, Bool.not_true, Bool.not_false]) | skip)
   have H' := Aside0.mk H
   clear H
   go_wp2
   go_roundg k1
   case measure => have := HK1.out; omega
   case rel => exact ⟨(wrap64 (x7_1 + 1)), (by first | rfl | (simp; done) | (simp [*]; done)), H', ⟨by have := HK1.out; omega⟩, ⟨bq⟩⟩
end Go.Proofs.Ytiheginanghhjaa.Q
namespace Go.Proofs.Ytiheginanghhjaa.SLX
open Go.RowKit Go.Proofs.YtiheginanghhjaaW.PrintWords Go.Proofs.YtiheginanghhjaaW.PrintLast Go.Proofs.YtiheginanghhjaaW.PrintMore
section
variable {P : Program} {α : Type}
theorem R_open {d : Kd α} {e : Nat} {W : World} {base : Nat} {ok : Nat → Prop} {v : Value} {xs : List α} (h : d.R e W base ok v xs) :
  (v = .slice none 0 0 ∧ xs = []) ∨ ∃ g c cur okk, v = .slice (some ⟨g, 0, none⟩) xs.length c ∧ ok g ∧ base ≤ g ∧ W.heap[g]? = some (.cells cur e (0, 0)) ∧ xs.length ≤ c ∧ c ≤ maxLen ∧ cur.size = c * d.sz ∧ Reps (d.M W base okk) d.sz xs (cur.toList.take (xs.length * d.sz)) := by
 obtain ⟨hok, inner, hown, hr⟩ := h
 rcases hown.2 with ⟨hv, h0⟩ | ⟨g, cap, cur, rfl, hb, hh, h1, h2, h3, h4⟩
 ·exact .inl ⟨hv, List.eq_nil_of_length_eq_zero h0⟩
 ·exact .inr ⟨g, cap, cur, _, rfl, hok g (by simp [Value.ownBlock]), hb, hh, h1, h2, h3, by rw [h4]; exact hr⟩
theorem R_shut {d : Kd α} {e : Nat} {W : World} {base g c n : Nat} {ok : Nat → Prop} {xs : List α} {cur : Array Value} (hok : ok g) (hb : base ≤ g) (hh : W.heap[g]? = some (.cells cur e (0, 0))) (hn : n = xs.length) (h1 : n ≤ c) (h2 : c ≤ maxLen) (h3 : cur.size = c * d.sz)
  (hr : Reps (d.M W base (fun k => ok k ∧ some k ≠ (Value.slice (some ⟨g, 0, none⟩) n c).ownBlock)) d.sz xs (cur.toList.take (n * d.sz))) : d.R e W base ok (.slice (some ⟨g, 0, none⟩) n c) xs := by
 subst hn
 refine ⟨fun k hk => ?_, cur.toList.take (xs.length * d.sz), ⟨hr.1, .inr ⟨g, c, cur, rfl, hb, hh, h1, h2, h3, rfl⟩⟩, hr⟩
 have : g = k := by simpa [Value.ownBlock] using hk
 subst this
 exact hok
theorem kept_of_grown {w w' : World} {g : Nat} {S : Nat → Prop} (h : w.grownBy w' (some g)) (hg : S g) : Kept w w' S :=
 ⟨h.size, fun i hi hn => h.block i hi (fun he => hn (by injection he with he; rw [he]; exact hg))⟩
end
end Go.Proofs.Ytiheginanghhjaa.SLX
namespace Go.Proofs
open Go.Shelf
def Try.lays106_ren : Go.Shelf.Ren := ⟨fun | 106 => 98 | 213 => 122 | 265 => 130 | n => n, fun | 9 => 9 | 3 => 3 | n => n, fun | n => n⟩
theorem Try.lays106 : Go.Proofs.Lays.n106 Try.prog Try.lays106_ren := {
 mixed := by kernel_rfl
 f106 := Try.func98.trans (congrArg some (by kernel_rfl))
 f213 := Try.func122.trans (congrArg some (by kernel_rfl))
 f265 := Try.func130.trans (congrArg some (by kernel_rfl))
 t3 := Try.underlying3
 a3 := Try.isAgg3
 z3 := Try.sizeOf3
 v3 := Try.zeroValue3
 t9 := Try.underlying9
 a9 := Try.isAgg9
 z9 := Try.sizeOf9
 v9 := Try.zeroValue9 }
open Go.RowKit in
theorem Try.strings_Compare (a b : ByteArray) (w : World) :
  Calls Try.prog 98 #[.string a, .string b] w fun e w' => e = .returned (.int .i64 (Lib.compareBytes a.data.toList b.data.toList)) ∧ w' = w := Any.strings_Compare Try.lays106 a b w
def Try.lays190_ren : Go.Shelf.Ren := ⟨fun | 190 => 70 | 125 => 95 | 258 => 94 | 128 => 120 | 129 => 121 | 302 => 111 | 303 => 112 | 304 => 113 | 305 => 114 | 306 => 115 | 307 => 116 | 308 => 117 | 309 => 118 | 310 => 119 | 333 => 124 | 329 => 125 | 330 => 126 | 334 => 127 | 335 => 128 | 336 => 129 | 344 => 131 | n => n, fun | 31 => 24 | 9 => 9 | 3 => 3 | 46 => 119 | 0 => 0 | 51 => 143 | 53 => 105 | 4 => 4 | 183 => 136 | 182 => 135 | 131 => 96 | 5 => 5 | 218 => 147 | 222 => 151 | 228 => 153 | 229 => 154 | n => n, fun | n => n⟩
theorem Try.lays190 : Go.Proofs.Lays.n190 Try.prog Try.lays190_ren := {
 mixed := by kernel_rfl
 f125 := Try.func95.trans (congrArg some (by kernel_rfl))
 f128 := Try.func120.trans (congrArg some (by kernel_rfl))
 f129 := Try.func121.trans (congrArg some (by kernel_rfl))
 f190 := Try.func70.trans (congrArg some (by kernel_rfl))
 f258 := Try.func94.trans (congrArg some (by kernel_rfl))
 f302 := Try.func111.trans (congrArg some (by kernel_rfl))
 f303 := Try.func112.trans (congrArg some (by kernel_rfl))
 f304 := Try.func113.trans (congrArg some (by kernel_rfl))
 f305 := Try.func114.trans (congrArg some (by kernel_rfl))
 f306 := Try.func115.trans (congrArg some (by kernel_rfl))
 f307 := Try.func116.trans (congrArg some (by kernel_rfl))
 f308 := Try.func117.trans (congrArg some (by kernel_rfl))
 f309 := Try.func118.trans (congrArg some (by kernel_rfl))
 f310 := Try.func119.trans (congrArg some (by kernel_rfl))
 f329 := Try.func125.trans (congrArg some (by kernel_rfl))
 f330 := Try.func126.trans (congrArg some (by kernel_rfl))
 f333 := Try.func124.trans (congrArg some (by kernel_rfl))
 f334 := Try.func127.trans (congrArg some (by kernel_rfl))
 f335 := Try.func128.trans (congrArg some (by kernel_rfl))
 f336 := Try.func129.trans (congrArg some (by kernel_rfl))
 f344 := Try.func131.trans (congrArg some (by kernel_rfl))
 t0 := Try.underlying0
 a0 := Try.isAgg0
 z0 := Try.sizeOf0
 v0 := Try.zeroValue0
 t3 := Try.underlying3
 a3 := Try.isAgg3
 z3 := Try.sizeOf3
 v3 := Try.zeroValue3
 t4 := Try.underlying4
 a4 := Try.isAgg4
 z4 := Try.sizeOf4
 v4 := Try.zeroValue4
 t5 := Try.underlying5
 a5 := Try.isAgg5
 z5 := Try.sizeOf5
 v5 := Try.zeroValue5
 t9 := Try.underlying9
 a9 := Try.isAgg9
 z9 := Try.sizeOf9
 v9 := Try.zeroValue9
 t31 := Try.underlying24
 a31 := Try.isAgg24
 z31 := Try.sizeOf24
 v31 := Try.zeroValue24
 t46 := Try.underlying119
 a46 := Try.isAgg119
 z46 := Try.sizeOf119
 v46 := Try.zeroValue119
 t51 := Try.underlying143
 a51 := Try.isAgg143
 z51 := Try.sizeOf143
 v51 := Try.zeroValue143
 t53 := Try.underlying105
 a53 := Try.isAgg105
 z53 := Try.sizeOf105
 v53 := Try.zeroValue105
 t131 := Try.underlying96
 a131 := Try.isAgg96
 z131 := Try.sizeOf96
 v131 := Try.zeroValue96
 t182 := Try.underlying135
 a182 := Try.isAgg135
 z182 := Try.sizeOf135
 v182 := Try.zeroValue135
 t183 := Try.underlying136
 a183 := Try.isAgg136
 z183 := Try.sizeOf136
 v183 := Try.zeroValue136
 t218 := Try.underlying147
 a218 := Try.isAgg147
 z218 := Try.sizeOf147
 v218 := Try.zeroValue147
 t222 := Try.underlying151
 a222 := Try.isAgg151
 z222 := Try.sizeOf151
 v222 := Try.zeroValue151
 t228 := Try.underlying153
 a228 := Try.isAgg153
 z228 := Try.sizeOf153
 v228 := Try.zeroValue153
 t229 := Try.underlying154
 a229 := Try.isAgg154
 z229 := Try.sizeOf154
 v229 := Try.zeroValue154 }
open Go.Sort Go.RowKit in
theorem Try.slices_Sort_string (blk off cap : Nat) (ss : List (List UInt8)) (w : World) (hH : Holds encStr w blk off ss.toArray) (hblk : blk < w.heap.size) (hsz : ss.length < 4611686018427387904) :
  Calls Try.prog 70 #[.slice (some ⟨blk, off, none⟩) ss.length cap] w fun e w' =>
   e = .returned (.tuple #[]) ∧ ∃ n os, w' = grow (putRow encStr (Sort.ahead w n) blk off (ss.mergeSort fun x y => decide (x ≤ y)).toArray) os := Any.slices_Sort_string Try.lays190 blk off cap ss w hH hblk hsz
def Try.lays194_ren : Go.Shelf.Ren := ⟨fun | 194 => 71 | n => n, fun | 31 => 24 | 9 => 9 | 3 => 3 | 4 => 4 | 0 => 0 | n => n, fun | n => n⟩
theorem Try.lays194 : Go.Proofs.Lays.n194 Try.prog Try.lays194_ren := {
 mixed := by kernel_rfl
 f194 := Try.func71.trans (congrArg some (by kernel_rfl))
 t0 := Try.underlying0
 a0 := Try.isAgg0
 z0 := Try.sizeOf0
 v0 := Try.zeroValue0
 t3 := Try.underlying3
 a3 := Try.isAgg3
 z3 := Try.sizeOf3
 v3 := Try.zeroValue3
 t4 := Try.underlying4
 a4 := Try.isAgg4
 z4 := Try.sizeOf4
 v4 := Try.zeroValue4
 t9 := Try.underlying9
 a9 := Try.isAgg9
 z9 := Try.sizeOf9
 v9 := Try.zeroValue9
 t31 := Try.underlying24
 a31 := Try.isAgg24
 z31 := Try.sizeOf24
 v31 := Try.zeroValue24 }
open Go.RowKit Go.Lib Go.Sort in
theorem Try.slices_Compact_string (blk off cap : Nat) (zs : List (List UInt8)) (w : World) (hH : Holds encStr w blk off zs.toArray) (hsz : zs.length ≤ 9223372036854775807) (hcap : zs.length ≤ cap) :
  Calls Try.prog 71 #[.slice (some ⟨blk, off, none⟩) zs.length cap] w fun e w' => e = .returned (.slice (some ⟨blk, off, none⟩) (Lib.compact zs).length cap) ∧ ∃ q, w' = putRow encStr (Sort.ahead w q) blk off (Lib.compact zs ++ List.replicate (zs.length - (Lib.compact zs).length) []).toArray := Any.slices_Compact_string Try.lays194 blk off cap zs w hH hsz hcap
open Go.RowKit Go.Lib Go.Sort in
theorem Try.slices_Compact_string_empty (a : Option Addr) (cap : Nat) (w : World) :
  Calls Try.prog 71 #[.slice a 0 cap] w fun e w' => e = .returned (.slice a 0 cap) ∧ w' = w := Any.slices_Compact_string_empty Try.lays194 a cap w
open Go.RowKit Go.Sort in
theorem Try.slices_Sort_string_none (p : Option Addr) (cap : Nat) (w : World) :
  Calls Try.prog 70 #[.slice p 0 cap] w fun e w' => e = .returned (.tuple #[]) ∧ w' = w := Any.slices_Sort_string_none Try.lays190 p cap w
end Go.Proofs
namespace Go.Proofs.Ytiheginanghhjaa.Q
open Go.RowKit Go.Proofs.YtiheginanghhjaaW.PrintWords Go.Proofs.YtiheginanghhjaaW.PrintLast Go.Proofs.YtiheginanghhjaaW.PrintMore
attribute [local go_sem] aP_ aQ_ bh_ bg_ aE_ aD_ aR_ aO_
def ax_.srt (l : List ByteArray) : List ByteArray := ((l.map (·.data.toList)).mergeSort fun x y => decide (x ≤ y)).map fun b => ⟨b.toArray⟩
def ax_.f (l0 : List ByteArray) : Option (List ByteArray) := if l0.length < 4611686018427387904 then some (ax_.srt l0) else none
theorem ax_.row {W : World} {base : Nat} {ok : Nat → Prop} {xs : List ByteArray} {cs : List Value} (h : Reps (Kd.M Kd.string W base ok) 1 xs cs) : cs = xs.map Value.string := by
 have hl : cs.length = xs.length := by have := h.1; omega
 apply List.ext_getElem?
 intro j
 by_cases hj : j < xs.length
 rotate_left
 ·rw [List.getElem?_eq_none (by omega), List.getElem?_eq_none (by simp; omega)]
 have h2 : (cs.drop (j * 1)).take 1 = [.string xs[j]] := h.2 j _ (List.getElem?_eq_getElem hj)
 have h3 := congrArg (fun l => l[0]?) h2
 simp only [List.getElem?_take, List.getElem?_drop] at h3
 simpa [hj] using h3
theorem ax_.rep {W : World} {base : Nat} {ok : Nat → Prop} (xs : List ByteArray) : Reps (Kd.M Kd.string W base ok) 1 xs (xs.map Value.string) := by
 refine ⟨by simp, fun j x hj => ?_⟩
 have hl := (List.getElem?_eq_some_iff.1 hj).1
 show ((xs.map Value.string).drop (j * 1)).take 1 = [.string x]
 rw [Nat.mul_one, List.drop_eq_getElem_cons (by simpa using hl)]
 simp only [List.take_succ_cons, List.take_zero, List.getElem_map]
 rw [(List.getElem?_eq_some_iff.1 hj).2]
theorem ax_.enc (l : List ByteArray) : (l.map (·.data.toList)).map encStr = l.map Value.string := by
 rw [List.map_map]
 apply List.map_congr_left
 intro x _
 simp [encStr]
set_option maxHeartbeats 1000000 in
theorem ax_.calls (P0_ : Nat → Prop) (u9000_ : Value) (l0 : List ByteArray) (r : List ByteArray) (w0 w : World) (hB : Below w0.heap.size w0 w) (ho0 : Kd.R Kd.string 9 w w0.heap.size P0_ u9000_ l0) (h : ax_.f l0 = some r) :
  Calls Try.prog 70 #[u9000_] w fun e w' => e = .returned (.tuple #[]) ∧ Kd.R Kd.string 9 w' w0.heap.size P0_ u9000_ r ∧ Below w0.heap.size w0 w' ∧ Kept w w' (fun k_ => P0_ k_) := by
 unfold ax_.f at h
 split at h
 case isFalse => cases h
 rename_i hn
 obtain rfl := Option.some.inj h
 rcases SLX.R_open ho0 with ⟨rfl, rfl⟩ | ⟨g, c, cur, okk, rfl, hok, hbg, hh, hnc, hcm, hcs, hrep⟩
 ·refine (Go.Proofs.Try.slices_Sort_string_none none 0 w).mono ?_
  rintro e w' ⟨rfl, rfl⟩
  exact ⟨rfl, by simpa [ax_.srt] using ho0, hB, Kept.refl _ _⟩
 ·have hcs1 : cur.size = c * 1 := hcs
  have ht : cur.toList.take (l0.map (·.data.toList)).length = (l0.map (·.data.toList)).map encStr := by
   rw [ax_.enc, List.length_map]
   have := ax_.row (show Reps (Kd.M Kd.string w w0.heap.size okk) 1 l0 (cur.toList.take (l0.length * 1)) from hrep)
   rwa [Nat.mul_one] at this
  have hgl : g < w.heap.size := (Array.getElem?_eq_some_iff.1 hh).1
  have hc := Go.Proofs.Try.slices_Sort_string g 0 c (l0.map (·.data.toList)) w (holds_of_block hh ht) hgl (by simpa using hn)
  rw [List.length_map] at hc
  refine hc.mono ?_
  rintro e w' ⟨rfl, n, os, rfl⟩
  have hsl : ((l0.map (·.data.toList)).mergeSort fun x y => decide (x ≤ y)).length = l0.length := by simp
  generalize hT : ((l0.map (·.data.toList)).mergeSort fun x y => decide (x ≤ y)) = T at hsl
  have HG := grownBy_sorted (w := w) (g := g) (n := n) (os := os) T.toArray
  refine ⟨rfl, ?_, hB.grown HG hB.size (fun k hk => by injection hk with hk; subst hk; exact hbg), SLX.kept_of_grown (S := fun k_ => P0_ k_) HG hok⟩
  have e1 : ax_.srt l0 = T.map fun b => ⟨b.toArray⟩ := by unfold ax_.srt; rw [hT]
  rw [e1]
  refine SLX.R_shut (d := Kd.string) (e := 9) (g := g) (c := c) (n := l0.length) (cur := Sort.putCells encStr 0 T.toArray cur) hok hbg (heap_sorted T.toArray hh) (by simp [hsl]) hnc hcm (by show _ = c * 1; simp [Sort.putCells, hcs1]) ?_
  have e2 := take_putCells cur T (by omega)
  show Reps _ 1 _ (List.take (l0.length * 1) _)
  rw [Nat.mul_one, ← hsl, e2]
  have e3 : T.map encStr = (T.map fun b => (⟨b.toArray⟩ : ByteArray)).map Value.string := by rw [List.map_map]; rfl
  rw [e3]
  exact ax_.rep _
def aA_.cmp (l : List ByteArray) : List ByteArray := (Lib.compact (l.map (·.data.toList))).map fun b => ⟨b.toArray⟩
def aA_.f (l0 : List ByteArray) : Option (List ByteArray) := if l0.length < 4611686018427387904 then some (aA_.cmp l0) else none
theorem aA_.row {W : World} {base : Nat} {ok : Nat → Prop} {xs : List ByteArray} {cs : List Value} (h : Reps (Kd.M Kd.string W base ok) 1 xs cs) : cs = xs.map Value.string := by
 have hl : cs.length = xs.length := by have := h.1; omega
 apply List.ext_getElem?
 intro j
 by_cases hj : j < xs.length
 rotate_left
 ·rw [List.getElem?_eq_none (by omega), List.getElem?_eq_none (by simp; omega)]
 have h2 : (cs.drop (j * 1)).take 1 = [.string xs[j]] := h.2 j _ (List.getElem?_eq_getElem hj)
 have h3 := congrArg (fun l => l[0]?) h2
 simp only [List.getElem?_take, List.getElem?_drop] at h3
 simpa [hj] using h3
theorem aA_.rep {W : World} {base : Nat} {ok : Nat → Prop} (xs : List ByteArray) : Reps (Kd.M Kd.string W base ok) 1 xs (xs.map Value.string) := by
 refine ⟨by simp, fun j x hj => ?_⟩
 have hl := (List.getElem?_eq_some_iff.1 hj).1
 show ((xs.map Value.string).drop (j * 1)).take 1 = [.string x]
 rw [Nat.mul_one, List.drop_eq_getElem_cons (by simpa using hl)]
 simp only [List.take_succ_cons, List.take_zero, List.getElem_map]
 rw [(List.getElem?_eq_some_iff.1 hj).2]
theorem aA_.enc (l : List ByteArray) : (l.map (·.data.toList)).map encStr = l.map Value.string := by
 rw [List.map_map]
 apply List.map_congr_left
 intro x _
 simp [encStr]
theorem aA_.len (l : List (List UInt8)) : (Lib.compact l).length ≤ l.length := by
 unfold Lib.compact Lib.compactUpTo
 rw [List.length_map]
 exact Nat.le_trans (List.length_filter_le _ _) (by simp)
set_option maxHeartbeats 1000000 in
theorem aA_.calls (P0_ : Nat → Prop) (u9000_ : Value) (l0 : List ByteArray) (r : List ByteArray) (w0 w : World) (hB : Below w0.heap.size w0 w) (ho0 : Kd.R Kd.string 9 w w0.heap.size P0_ u9000_ l0) (h : aA_.f l0 = some r) :
  Calls Try.prog 71 #[u9000_] w fun e w' => ∃ v0_ : Value, e = .returned (v0_) ∧ Kd.R Kd.string 9 w' w0.heap.size (fun k_ => (P0_ k_ ∨ w.heap.size ≤ k_)) v0_ r ∧ Below w0.heap.size w0 w' ∧ Kept w w' (fun k_ => P0_ k_) := by
 unfold aA_.f at h
 split at h
 case isFalse => cases h
 rename_i hn
 obtain rfl := Option.some.inj h
 rcases SLX.R_open ho0 with ⟨rfl, rfl⟩ | ⟨g, c, cur, okk, rfl, hok, hbg, hh, hnc, hcm, hcs, hrep⟩
 ·refine (Go.Proofs.Try.slices_Compact_string_empty none 0 w).mono ?_
  rintro e w' ⟨rfl, rfl⟩
  exact ⟨_, rfl, Kd.aB_ ho0 (fun _ hk => .inl hk), hB, Kept.refl _ _⟩
 ·have hcs1 : cur.size = c * 1 := hcs
  have ht : cur.toList.take (l0.map (·.data.toList)).length = (l0.map (·.data.toList)).map encStr := by
   rw [aA_.enc, List.length_map]
   have := aA_.row (show Reps (Kd.M Kd.string w w0.heap.size okk) 1 l0 (cur.toList.take (l0.length * 1)) from hrep)
   rwa [Nat.mul_one] at this
  have hgl : g < w.heap.size := (Array.getElem?_eq_some_iff.1 hh).1
  have hc := Go.Proofs.Try.slices_Compact_string g 0 c (l0.map (·.data.toList)) w (holds_of_block hh ht) (by rw [List.length_map]; omega) (by rw [List.length_map]; omega)
  rw [List.length_map] at hc
  refine hc.mono ?_
  rintro e w' ⟨rfl, q, rfl⟩
  have hsl := aA_.len (l0.map (·.data.toList))
  rw [List.length_map] at hsl
  unfold aA_.cmp
  generalize hT : Lib.compact (l0.map (·.data.toList)) = T at hsl
  obtain ⟨U, hU⟩ : ∃ U, U = T ++ List.replicate (l0.length - T.length) [] := ⟨_, rfl⟩
  rw [← hU]
  have hUl : U.length = l0.length := by rw [hU]; simp; omega
  have HG := grownBy_sorted (w := w) (g := g) (n := q) (os := #[]) U.toArray
  have HH := heap_sorted (w := w) (g := g) (n := q) (os := #[]) U.toArray hh
  rw [Sort.grow_empty] at HG HH
  refine ⟨_, rfl, ?_, hB.grown HG hB.size (fun k hk => by injection hk with hk; subst hk; exact hbg), SLX.kept_of_grown (S := fun k_ => P0_ k_) HG hok⟩
  refine SLX.R_shut (d := Kd.string) (e := 9) (g := g) (c := c) (n := T.length) (cur := Sort.putCells encStr 0 U.toArray cur) (.inl hok) hbg HH (by simp) (by omega) hcm (by show _ = c * 1; simp [Sort.putCells, hcs1]) ?_
  have e2 := take_putCells cur U (by omega)
  show Reps _ 1 _ (List.take (T.length * 1) _)
  have e4 : (Sort.putCells encStr 0 U.toArray cur).toList.take T.length = T.map encStr := by
   have : (Sort.putCells encStr 0 U.toArray cur).toList.take T.length = ((Sort.putCells encStr 0 U.toArray cur).toList.take U.length).take T.length := by rw [List.take_take, Nat.min_eq_left (by omega)]
   rw [this, e2, hU, List.map_append, List.take_left' (by simp)]
  rw [Nat.mul_one, e4]
  have e3 : T.map encStr = (T.map fun b => (⟨b.toArray⟩ : ByteArray)).map Value.string := by rw [List.map_map]; rfl
  rw [e3]
  exact aA_.rep _
mutual
def ba_.l0 : Nat → List ByteArray → List (List (S63)) → Int → Int → Option (List ByteArray)
 | 0, _, _, _, _ => none
 | k + 1, x3, x9, x10, x11 => if x11 < x10 then (if 0 ≤ x11 then (if x11 < (x9.length : Int) then (ba_.l1 k x3 x9 x10 x11 (rd_L7 x9 x11) ((rd_L7 x9 x11).length : Int) 0) else (none)) else (none)) else ((ax_.f x3).bind fun t104 => ((aA_.f t104).bind fun t105 => (some t105)))
def ba_.l1 : Nat → List ByteArray → List (List (S63)) → Int → Int → List (S63) → Int → Int → Option (List ByteArray)
 | 0, _, _, _, _, _, _, _ => none
 | k + 1, x3, x9, x10, x11, x15, x16, x17 => if x17 < x16 then (if 0 ≤ x17 then (if x17 < (x15.length : Int) then (if x3.length < 8796093022208 then (ba_.l1 k (x3 ++ [(af_ x15 x17).f0]) x9 x10 x11 x15 x16 (wrap64 (x17 + 1))) else (none)) else (none)) else (none)) else (ba_.l0 k x3 x9 x10 (wrap64 (x11 + 1)))
end
def ba_.f (k : Nat) (l0 : List (List (S63))) : Option (List ByteArray) := ba_.l0 k (([] : List ByteArray)) l0 (l0.length : Int) 0
set_option maxHeartbeats 8000000 in
set_option maxRecDepth 100000 in
theorem ba_.calls (k : Nat) (A0 : Option Addr) (c0 : Nat) (l0 : List (List (S63))) (r : List ByteArray) (w : World) (hr0 : Kd.C (Kd.slice 63 k63) w A0 l0.length l0) (hc0 : l0.length ≤ c0) (h : ba_.f k l0 = some r) :
  Calls Try.prog 40 #[.slice A0 l0.length c0] w fun e w' => ∃ v0_ : Value, e = .returned (v0_) ∧ Kd.R Kd.string 9 w' w.heap.size (fun _ => True) v0_ r ∧ Below w.heap.size w w' := by
 have hu63 := Try.underlying63
 have HR0 := Aside0.mk hr0
 have HC0 := Aside0.mk hc0
 clear hr0 hc0
 have HB := Aside0.mk (Below.refl w.heap.size w)
 have H : (ba_.l0 k (([] : List ByteArray)) l0 (l0.length : Int) 0) = some r := h
 clear h
 obtain ⟨y101, hy101⟩ : ∃ y_ : List ByteArray, y_ = (([] : List ByteArray)) := ⟨_, rfl⟩
 replace H : (ba_.l0 k y101 l0 (l0.length : Int) 0) = some r := by first | (rw [hy101]; with_reducible exact H) | (have H2_ := (Option.bind_some _ _).symm.trans H; rw [hy101]; with_reducible exact H2_) | (have H2_ := (Option.bind_some _ _).symm.trans H; with_reducible exact H2_) | with_reducible exact H | (rw [hy101]; exact H) | exact H
 have Ny101 := Aside0.mk hy101
 clear hy101
 have H' := Aside0.mk H
 clear H
 go_enter Try.func40, Try.ntmps40
 go_wp2_with (first | ((with_reducible refine aH_ (N := 8) rfl ?_); refine Kd.R_lit Kd.string _ 9 ?hg (N := 8) ?hd (xs := ([] : List ByteArray)) (inner := []) (ok := fun _ => True) (okp := fun _ => True) ?hr ?hp (fun _ hk => hk) trivial (Below.refl _ _) (Nat.le_refl _) (by simp) ?_; (case hd => rfl); (case hg => rfl); (case hr => (go_simp; try rfl)); (case hp => exact (Reps.none _ _)); intro v102 w2 ho3 hb hg_ hnew_; clear hg_ hnew_; (first | rw [← Ny101.out] at ho3 | (simp only [Int.reduceToNat] at ho3; rw [← Ny101.out] at ho3)); have HO103 := Aside0.mk (Kd.bt_ ho3 (ae_ (bz HB.out))); replace HB := Aside0.mk (ac_ (bz HB.out) hb); clear hb ho3))
 (try simp only [Act.put, lsa_, ls0_, ls1_])
 go_loopg [3, 11] k (fun kq v3 v11 w' => ∃ (x3_1 : List ByteArray) (x11_1 : Int), v11 = .int .i64 x11_1 ∧ Aside0 (ba_.l0 kq x3_1 l0 (l0.length : Int) x11_1 = some r) ∧ Aside0 (kq ≤ k) ∧ Aside0 (Kd.R Kd.string 9 w' w.heap.size (fun _ => True) v3 x3_1) ∧ Aside0 (Below w.heap.size w w'))
 case atStart => exact ⟨(y101), (0), (by first | rfl | (simp; done) | (simp [*]; done)), H', ⟨Nat.le_refl _⟩, ⟨rz HO103.out⟩, ⟨bz HB.out⟩⟩
 case round =>
  clear H'
  obtain ⟨x3_1, x11_1, rfl, HA, HK1, HO_3, HB⟩ := hrel
  cases gk with
  | zero => exact absurd HA.out (by simp [ba_.l0])
  | succ k1 =>
   have H := HA.out
   clear HA
   simp only [ba_.l0] at H
   by_cases c4 : x11_1 < (l0.length : Int)
   rotate_left
   ·rw [if_neg c4] at H
    have c4b0 : decide (x11_1 < (l0.length : Int)) = false := decide_eq_false c4
    clear c4
    replace H := Option.bind_eq_some_iff.mp H
    obtain ⟨t104, A140, H⟩ := H
    (try dsimp only at H)
    have A14 := Aside0.mk A140
    clear A140
    replace H := Option.bind_eq_some_iff.mp H
    obtain ⟨t105, A150, H⟩ := H
    (try dsimp only at H)
    have A15 := Aside0.mk A150
    clear A150
    obtain rfl := Option.some.inj H
    obtain ⟨Ao16, co16, eo16⟩ := Kd.bn_ HO_3.out
    subst eo16
    go_wp2_with (first | ((with_reducible refine ah_ (f := 70) rfl ?_); refine aN_ (some 29) rfl rfl Try.func70 (by kernel_rfl) rfl #[.slice Ao16 x3_1.length co16] rfl (by first | rfl | (simp only [lma_, lmc_, lmn_]; first | done | rfl)) ?_; (with_reducible refine (ax_.calls (fun k_ => some k_ = (.slice Ao16 x3_1.length co16 : Value).ownBlock) (.slice Ao16 x3_1.length co16) x3_1 t104 w _ ?side1 ?side2 A14.out).mono ?_); (case side1 => exact bz HB.out); (case side2 => exact Kd.cD_ rfl HO_3.out); rintro e w17 ⟨rfl, hy0, hb, hkp⟩; refine ⟨_, rfl, ?_⟩; replace HO_3 := Aside0.mk (Kd.R_reok rfl hy0 (fun k_ e_ => HO_3.out.1 k_ e_)); replace HB := Aside0.mk (hb); (try clear hb); (try clear hkp); (try clear hy0)) | ((with_reducible refine ah_ (f := 71) rfl ?_); refine aN_ (some 31) rfl rfl Try.func71 (by kernel_rfl) rfl #[.slice Ao16 x3_1.length co16] rfl (by first | rfl | (simp only [lma_, lmc_, lmn_]; first | done | rfl)) ?_; (with_reducible refine (aA_.calls (fun k_ => some k_ = (.slice Ao16 x3_1.length co16 : Value).ownBlock) (.slice Ao16 x3_1.length co16) t104 t105 w _ ?side1 ?side2 A15.out).mono ?_); (case side1 => exact bz HB.out); (case side2 => exact Kd.cD_ rfl HO_3.out); rintro e w18 ⟨v106, rfl, ho0, hb, hkp⟩; refine ⟨_, rfl, ?_⟩; have HO107 := Aside0.mk (Kd.aB_ (ok' := fun k_ => True) ho0 (fun k_ hk_ => trivial)); replace HB := Aside0.mk (hb); clear HO_3; (try clear hb); (try clear hkp); (try clear ho0)))
    go_ret
    exact ⟨_, by first | rfl | (simp [*, ao_, an_] <;> rfl), rz HO107.out, bz HB.out⟩
   rw [if_pos c4] at H
   have c4b0 : decide (x11_1 < (l0.length : Int)) = true := decide_eq_true c4
   clear c4
   by_cases c5 : 0 ≤ x11_1
   rotate_left
   ·rw [if_neg c5] at H
    exact absurd H (by simp)
   rw [if_pos c5] at H
   have c5b0 : decide (0 ≤ x11_1) = true := decide_eq_true c5
   clear c5
   by_cases c6 : x11_1 < (l0.length : Int)
   rotate_left
   ·rw [if_neg c6] at H
    exact absurd H (by simp)
   rw [if_pos c6] at H
   have c6b0 : decide (x11_1 < (l0.length : Int)) = true := decide_eq_true c6
   clear c6
   have H' := Aside0.mk H
   clear H
   have p108 : 0 ≤ (x11_1 : Int) := of_decide_eq_true (by assumption)
   have q108 : x11_1 < (l0.length : Int) := of_decide_eq_true (by assumption)
   obtain ⟨ad108, A108_0, c108_0, e108, hx108_0, hl108_0, hi108_0⟩ := at_L7 HR0.out x11_1 p108 q108
   cases e108
   replace hx108_0 := bu_ HB.out hx108_0
   have HR108_0 := Aside0.mk hi108_0
   have HC108_0 := Aside0.mk hl108_0
   clear hi108_0 hl108_0
   replace p108 := eq_true p108
   replace q108 := eq_true q108
   go_wp2
   (try simp only [Act.put, lsa_, ls0_, ls1_])
   go_loopg [3, 17] k1 (fun kq v3 v17 w' => ∃ (x3_2 : List ByteArray) (x17_2 : Int), v17 = .int .i64 x17_2 ∧ Aside0 (ba_.l1 kq x3_2 l0 (l0.length : Int) x11_1 (rd_L7 l0 x11_1) ((rd_L7 l0 x11_1).length : Int) x17_2 = some r) ∧ Aside0 (kq ≤ k1) ∧ Aside0 (Kd.R Kd.string 9 w' w.heap.size (fun _ => True) v3 x3_2) ∧ Aside0 (Below w.heap.size w w'))
   case atStart => exact ⟨(x3_1), (0), (by first | rfl | (simp; done) | (simp [*]; done)), H', ⟨Nat.le_refl _⟩, ⟨rz HO_3.out⟩, ⟨bz HB.out⟩⟩
   case round =>
    clear H'
    obtain ⟨x3_2, x17_2, rfl, HA, HK2, HO_3, HB⟩ := hrel
    cases gk with
    | zero => exact absurd HA.out (by simp [ba_.l1])
    | succ k2 =>
     have H := HA.out
     clear HA
     simp only [ba_.l1] at H
     by_cases c7 : x17_2 < ((rd_L7 l0 x11_1).length : Int)
     rotate_left
     ·rw [if_neg c7] at H
      have c7b0 : decide (x17_2 < ((rd_L7 l0 x11_1).length : Int)) = false := decide_eq_false c7
      clear c7
      have H' := Aside0.mk H
      clear H
      go_wp2
      go_roundg k2
      case measure => have := HK1.out; have := HK2.out; omega
      case rel => exact ⟨(x3_2), (wrap64 (x11_1 + 1)), (by first | rfl | (simp; done) | (simp [*]; done)), H', ⟨by have := HK1.out; have := HK2.out; omega⟩, ⟨rz HO_3.out⟩, ⟨bz HB.out⟩⟩
     rw [if_pos c7] at H
     have c7b0 : decide (x17_2 < ((rd_L7 l0 x11_1).length : Int)) = true := decide_eq_true c7
     clear c7
     by_cases c8 : 0 ≤ x17_2
     rotate_left
     ·rw [if_neg c8] at H
      exact absurd H (by simp)
     rw [if_pos c8] at H
     have c8b0 : decide (0 ≤ x17_2) = true := decide_eq_true c8
     clear c8
     by_cases c9 : x17_2 < ((rd_L7 l0 x11_1).length : Int)
     rotate_left
     ·rw [if_neg c9] at H
      exact absurd H (by simp)
     rw [if_pos c9] at H
     have c9b0 : decide (x17_2 < ((rd_L7 l0 x11_1).length : Int)) = true := decide_eq_true c9
     clear c9
     by_cases c10 : x3_2.length < 8796093022208
     rotate_left
     ·rw [if_neg c10] at H
      exact absurd H (by simp)
     rw [if_pos c10] at H
     have LMc10 := Aside0.mk c10
     clear c10
     obtain ⟨y111, hy111⟩ : ∃ y_ : List ByteArray, y_ = (x3_2 ++ [(af_ (rd_L7 l0 x11_1) x17_2).f0]) := ⟨_, rfl⟩
     replace H : (ba_.l1 k2 y111 l0 (l0.length : Int) x11_1 (rd_L7 l0 x11_1) ((rd_L7 l0 x11_1).length : Int) (wrap64 (x17_2 + 1))) = some r := by first | (rw [hy111]; with_reducible exact H) | (have H2_ := (Option.bind_some _ _).symm.trans H; rw [hy111]; with_reducible exact H2_) | (have H2_ := (Option.bind_some _ _).symm.trans H; with_reducible exact H2_) | with_reducible exact H | (rw [hy111]; exact H) | exact H
     have Ny111 := Aside0.mk hy111
     clear hy111
     have H' := Aside0.mk H
     clear H
     have p109 : 0 ≤ (x17_2 : Int) := of_decide_eq_true (by assumption)
     have q109 : x17_2 < ((rd_L7 l0 x11_1).length : Int) := of_decide_eq_true (by assumption)
     obtain ⟨ad109, e109, hx109_0, hx109_1, hx109_2, hx109_3⟩ := cH_ HR108_0.out x17_2 p109 q109
     cases e109
     replace hx109_0 := bu_ HB.out hx109_0
     replace hx109_1 := bu_ HB.out hx109_1
     replace hx109_2 := bu_ HB.out hx109_2
     replace hx109_3 := bu_ HB.out hx109_3
     replace p109 := eq_true p109
     replace q109 := eq_true q109
     go_wp2_with (first | ((with_reducible refine aH_ (N := 7) rfl ?_); refine by_ ?hg (N := 7) ?hd (cs := #[.string (⟨#[]⟩ : ByteArray), .string (⟨#[]⟩ : ByteArray), .int .i64 0, .int .i64 0]) (t := 63) ?hr ?_; (case hd => rfl); (case hg => rfl); (case hr => (go_simp; try rfl)); intro gb110 hg w11 hbox hb; replace HO_3 := Aside0.mk (Kd.aT_ (rz HO_3.out) hb); have BK110 := Aside0.mk (hbox); have GW110 := Aside0.mk ((by rw [hg]; exact (ae_ (bz HB.out)) : w.heap.size ≤ gb110)); have GE110 := GW110; replace HB := Aside0.mk (ac_ (bz HB.out) hb); clear hb hbox hg; obtain ⟨hcz12_0, hcz12_1, hcz12_2, hcz12_3⟩ := cz4_ BK110.out; obtain ⟨hfz12_0, hfz12_1, hfz12_2, hfz12_3⟩ := fz4_ BK110.out) | ((with_reducible refine be_ (b := .append) (xs := #[.tmp 21, .tmp 24]) rfl ?_); at_builtin; refine Kd.cw_ Kd.string (w0 := w) w.heap.size rfl (.tmp 21) (.tmp 24) 24 9 (.string ⟨#[]⟩) 16 rfl Try.underlying24 info9 rfl (by decide) (by omega) u3 x3_2 ((af_ (rd_L7 l0 x11_1) x17_2).f0) [.string ((af_ (rd_L7 l0 x11_1) x17_2).f0)] (fun _ => True) (fun _ => False) rfl (by first | (go_simp; done) | (go_simp; rfl)) ?aP (fun _ hk => hk.elim) ?aF ?aO ?aB ?aS ?aL ?_; (case aP => exact rfl); (case aB => exact (bq)); (case aF => exact (fun _ _ => trivial)); (case aO => exact (rz (Kd.aB_ (Kd.R_far (p := ⟨gb110, 3, none⟩) (Kd.R_far (p := ⟨gb110, 2, none⟩) (Kd.R_far (p := ⟨gb110, 1, none⟩) (Kd.R_far (p := ⟨gb110, 0, none⟩) (Kd.bs_ HO_3.out BK110.out (by decide)) (fun _ hk => hk.2) (.string ((af_ (rd_L7 l0 x11_1) x17_2).f0))) (fun _ hk => hk.2) (.string ((af_ (rd_L7 l0 x11_1) x17_2).f1.f0))) (fun _ hk => hk.2) (.int .i64 ((af_ (rd_L7 l0 x11_1) x17_2).f1.f1))) (fun _ hk => hk.2) (.int .i64 ((af_ (rd_L7 l0 x11_1) x17_2).f1.f2))) (fun _ hk => trivial)))); (case aS => exact (ae_ (bq))); (case aL => have := LMc10.out; omega); intro v112 w13 ho hb hg hat; rw [← Ny111.out] at ho; replace BK110 := Aside0.mk (bS_ (g := gb110) (o := .cells #[.string ((af_ (rd_L7 l0 x11_1) x17_2).f0), .string ((af_ (rd_L7 l0 x11_1) x17_2).f1.f0), .int .i64 ((af_ (rd_L7 l0 x11_1) x17_2).f1.f1), .int .i64 ((af_ (rd_L7 l0 x11_1) x17_2).f1.f2)] 63 (0, 0)) (by exact kj4_3 (kj4_2 (kj4_1 (kj4_0 (kz BK110.out))))) hg (Kd.R_ne HO_3.out BK110.out (by decide))); replace HB := Aside0.mk (hb); have HO113 := Aside0.mk (ho); clear HO_3; clear ho hb hg hat))
     go_roundg k2
     case measure => have := HK1.out; have := HK2.out; omega
     case rel => exact ⟨(y111), (wrap64 (x17_2 + 1)), (by first | rfl | (simp; done) | (simp [*]; done)), H', ⟨by have := HK1.out; have := HK2.out; omega⟩, ⟨rz HO113.out⟩, ⟨bq⟩⟩
def strings_Compare.f (a0 : ByteArray) (a1 : ByteArray) : Option (Int) := some (Go.Lib.compareBytes a0.data.toList a1.data.toList)
theorem strings_Compare.calls (a0 : ByteArray) (a1 : ByteArray) (r : Int) (w : World) (h : strings_Compare.f a0 a1 = some r) :
  Calls Try.prog 98 #[.string a0, .string a1] w fun e w' => e = .returned (.int .i64 r) ∧ aq_ w w' := by
 obtain rfl := Option.some.inj h
 refine (Go.Proofs.Try.strings_Compare a0 a1 w).mono ?_
 rintro e w' ⟨rfl, rfl⟩
 exact ⟨rfl, aq_.refl _⟩
def cc_.f (a0_0 : ByteArray) (a0_1 : ByteArray) (a0_2 : Int) (a0_3 : Int) (a1 : ByteArray) : Option (Int) := (strings_Compare.f a0_0 a1).bind fun t102 => (some t102)
set_option maxHeartbeats 8000000 in
set_option maxRecDepth 100000 in
theorem cc_.calls (a0_0 : ByteArray) (a0_1 : ByteArray) (a0_2 : Int) (a0_3 : Int) (a1 : ByteArray) (r : Int) (w : World) (h : cc_.f a0_0 a0_1 a0_2 a0_3 a1 = some r) :
  Calls Try.prog 97 #[.agg #[.string a0_0, .string a0_1, .int .i64 a0_2, .int .i64 a0_3], .string a1] w fun e w' => e = .returned (.int .i64 r) ∧ Below w.heap.size w w' := by
 have hu63 := Try.underlying63
 have HB := Aside0.mk (Below.refl w.heap.size w)
 have H : ((strings_Compare.f a0_0 a1).bind fun t102 => (some t102)) = some r := h
 clear h
 replace H := Option.bind_eq_some_iff.mp H
 obtain ⟨t102, A30, H⟩ := H
 (try dsimp only at H)
 have A3 := Aside0.mk A30
 clear A30
 obtain rfl := Option.some.inj H
 go_enter Try.func97, Try.ntmps97
 go_wp2_with (first | ((with_reducible refine aH_ (N := 2) rfl ?_); refine by_ ?hg (N := 2) ?hd (cs := #[.string a0_0, .string a0_1, .int .i64 a0_2, .int .i64 a0_3]) (t := 63) ?hr ?_; (case hd => rfl); (case hg => rfl); (case hr => (go_simp; try rfl)); intro gb101 hg w4 hbox hb; have BK101 := Aside0.mk (hbox); have GW101 := Aside0.mk ((by rw [hg]; exact (ae_ (bz HB.out)) : w.heap.size ≤ gb101)); have GE101 := GW101; replace HB := Aside0.mk (ac_ (bz HB.out) hb); clear hb hbox hg; obtain ⟨hcz5_0, hcz5_1, hcz5_2, hcz5_3⟩ := cz4_ BK101.out; obtain ⟨hfz5_0, hfz5_1, hfz5_2, hfz5_3⟩ := fz4_ BK101.out) | ((with_reducible refine ah_ (f := 98) rfl ?_); refine aN_ (some 8) rfl rfl Try.func98 (by kernel_rfl) rfl #[.string a0_0, .string a1] rfl (by first | rfl | (simp only [lma_, lmc_, lmn_]; first | done | rfl)) ?_; (with_reducible refine (strings_Compare.calls a0_0 a1 t102 _ A3.out).mono ?_); rintro e w' ⟨rfl, ⟨nd, rfl⟩⟩; refine ⟨_, rfl, ?_⟩))
 go_ret
 exact ⟨by first | rfl | (simp [*, ao_, an_] <;> rfl), bq⟩
def bo_.l0 : Nat → List (S63) → ByteArray → Int → Int → Int → Option (Int × Bool)
 | 0, _, _, _, _, _ => none
 | k + 1, x0, x1, x8, x9, x10 => if x9 < x10 then (if 0 ≤ (wrap64 ((IntKind.u64.wrap (wrap64 (x9 + x10))) / 2)) then (if (wrap64 ((IntKind.u64.wrap (wrap64 (x9 + x10))) / 2)) < (x0.length : Int) then ((cc_.f ((af_ x0 (wrap64 ((IntKind.u64.wrap (wrap64 (x9 + x10))) / 2))).f0) ((af_ x0 (wrap64 ((IntKind.u64.wrap (wrap64 (x9 + x10))) / 2))).f1.f0) ((af_ x0 (wrap64 ((IntKind.u64.wrap (wrap64 (x9 + x10))) / 2))).f1.f1) ((af_ x0 (wrap64 ((IntKind.u64.wrap (wrap64 (x9 + x10))) / 2))).f1.f2) x1).bind fun t102 => (if t102 < 0 then (bo_.l0 k x0 x1 x8 (wrap64 ((wrap64 ((IntKind.u64.wrap (wrap64 (x9 + x10))) / 2)) + 1)) x10) else (bo_.l0 k x0 x1 x8 x9 (wrap64 ((IntKind.u64.wrap (wrap64 (x9 + x10))) / 2))))) else (none)) else (none)) else (if x9 < x8 then (if 0 ≤ x9 then (if x9 < (x0.length : Int) then ((cc_.f ((af_ x0 x9).f0) ((af_ x0 x9).f1.f0) ((af_ x0 x9).f1.f1) ((af_ x0 x9).f1.f2) x1).bind fun t104 => (some (x9, (t104 == 0)))) else (none)) else (none)) else (some (x9, false)))
def bo_.f (k : Nat) (l0 : List (S63)) (a1 : ByteArray)  : Option (Int × Bool) := bo_.l0 k l0 a1 (l0.length : Int) 0 (l0.length : Int)
set_option maxHeartbeats 8000000 in
set_option maxRecDepth 100000 in
theorem bo_.calls (k : Nat) (A0 : Option Addr) (c0 : Nat) (l0 : List (S63)) (a1 : ByteArray)  (r1 : Int) (r2 : Bool) (w : World) (hr0 : Kd.C k63 w A0 l0.length l0) (hc0 : l0.length ≤ c0) (h : bo_.f k l0 a1 = some (r1, r2)) :
  Calls Try.prog 96 #[.slice A0 l0.length c0, .string a1, .func (.func 97) #[] #[]] w fun e w' => e = .returned (.tuple #[.int .i64 r1, .bool r2]) ∧ Below w.heap.size w w' := by
 have hu63 := Try.underlying63
 have HR0 := Aside0.mk hr0
 have HC0 := Aside0.mk hc0
 clear hr0 hc0
 have HB := Aside0.mk (Below.refl w.heap.size w)
 have H : (bo_.l0 k l0 a1 (l0.length : Int) 0 (l0.length : Int)) = some (r1, r2) := h
 clear h
 have H' := Aside0.mk H
 clear H
 go_enter Try.func96, Try.ntmps96
 go_wp2
 (try simp only [Act.put, lsa_, ls0_, ls1_])
 go_loopg [9, 10] k (fun kq v9 v10 w' => ∃ (x9_1 : Int) (x10_1 : Int), v9 = .int .i64 x9_1 ∧ v10 = .int .i64 x10_1 ∧ Aside0 (bo_.l0 kq l0 a1 (l0.length : Int) x9_1 x10_1 = some (r1, r2)) ∧ Aside0 (kq ≤ k) ∧ Aside0 (Below w.heap.size w w'))
 case atStart => exact ⟨(0), ((l0.length : Int)), (by first | rfl | (simp; done) | (simp [*]; done)), (by first | rfl | (simp; done) | (simp [*]; done)), H', ⟨Nat.le_refl _⟩, ⟨bz HB.out⟩⟩
 case round =>
  clear H'
  obtain ⟨x9_1, x10_1, rfl, rfl, HA, HK1, HB⟩ := hrel
  cases gk with
  | zero => exact absurd HA.out (by simp [bo_.l0])
  | succ k1 =>
   have H := HA.out
   clear HA
   simp only [bo_.l0] at H
   by_cases c4 : x9_1 < x10_1
   rotate_left
   ·rw [if_neg c4] at H
    have c4b0 : decide (x9_1 < x10_1) = false := decide_eq_false c4
    clear c4
    by_cases c12 : x9_1 < (l0.length : Int)
    rotate_left
    ·rw [if_neg c12] at H
     have c12b0 : decide (x9_1 < (l0.length : Int)) = false := decide_eq_false c12
     clear c12
     simp only [Option.some.injEq, Prod.mk.injEq] at H
     obtain ⟨rfl, rfl⟩ := H
     go_wp2
     go_ret2
     exact ⟨by first | rfl | (simp [*, ao_, an_] <;> rfl), bz HB.out⟩
    rw [if_pos c12] at H
    have c12b0 : decide (x9_1 < (l0.length : Int)) = true := decide_eq_true c12
    clear c12
    by_cases c13 : 0 ≤ x9_1
    rotate_left
    ·rw [if_neg c13] at H
     exact absurd H (by simp)
    rw [if_pos c13] at H
    have c13b0 : decide (0 ≤ x9_1) = true := decide_eq_true c13
    clear c13
    by_cases c14 : x9_1 < (l0.length : Int)
    rotate_left
    ·rw [if_neg c14] at H
     exact absurd H (by simp)
    rw [if_pos c14] at H
    have c14b0 : decide (x9_1 < (l0.length : Int)) = true := decide_eq_true c14
    clear c14
    replace H := Option.bind_eq_some_iff.mp H
    obtain ⟨t104, A150, H⟩ := H
    (try dsimp only at H)
    have A15 := Aside0.mk A150
    clear A150
    simp only [Option.some.injEq, Prod.mk.injEq] at H
    obtain ⟨rfl, rfl⟩ := H
    have p103 : 0 ≤ (x9_1 : Int) := of_decide_eq_true (by assumption)
    have q103 : x9_1 < (l0.length : Int) := of_decide_eq_true (by assumption)
    obtain ⟨ad103, e103, hx103_0, hx103_1, hx103_2, hx103_3⟩ := cH_ HR0.out x9_1 p103 q103
    cases e103
    replace hx103_0 := bu_ HB.out hx103_0
    replace hx103_1 := bu_ HB.out hx103_1
    replace hx103_2 := bu_ HB.out hx103_2
    replace hx103_3 := bu_ HB.out hx103_3
    replace p103 := eq_true p103
    replace q103 := eq_true q103
    go_wp2_with (first | (go_at_call 97; (with_reducible refine (cc_.calls ((af_ l0 x9_1).f0) ((af_ l0 x9_1).f1.f0) ((af_ l0 x9_1).f1.f1) ((af_ l0 x9_1).f1.f2) a1 t104 _ A15.out).mono ?_); rintro e w16 ⟨rfl, hb⟩; replace HB := Aside0.mk (ac_ (bz HB.out) hb); (try clear hb)))
    go_ret2
    exact ⟨by first | rfl | (simp [*, ao_, an_] <;> rfl), bz HB.out⟩
   rw [if_pos c4] at H
   have c4b0 : decide (x9_1 < x10_1) = true := decide_eq_true c4
   clear c4
   obtain ⟨ji5, hji5⟩ : ∃ j_ : Int, (wrap64 ((IntKind.u64.wrap (wrap64 (x9_1 + x10_1))) / 2)) = j_ := ⟨_, rfl⟩
   replace H : (if 0 ≤ (ji5) then (if (ji5) < (l0.length : Int) then ((cc_.f ((af_ l0 (ji5)).f0) ((af_ l0 (ji5)).f1.f0) ((af_ l0 (ji5)).f1.f1) ((af_ l0 (ji5)).f1.f2) a1).bind fun t102 => (if t102 < 0 then (bo_.l0 k1 l0 a1 (l0.length : Int) (wrap64 ((ji5) + 1)) x10_1) else (bo_.l0 k1 l0 a1 (l0.length : Int) x9_1 ji5))) else (none)) else (none)) = some (r1, r2) := by first | (rw [hji5] at H; exact H) | (simp only [hji5] at H ⊢; exact H)
   have hji5w : (IntKind.i64.wrap ((IntKind.u64.wrap (wrap64 (x9_1 + x10_1))) / 2)) = ji5 := (i64_w _).trans hji5
   by_cases c6 : 0 ≤ (ji5)
   rotate_left
   ·rw [if_neg c6] at H
    exact absurd H (by simp)
   rw [if_pos c6] at H
   have c6b0 : decide (0 ≤ (ji5)) = true := decide_eq_true c6
   clear c6
   by_cases c7 : (ji5) < (l0.length : Int)
   rotate_left
   ·rw [if_neg c7] at H
    exact absurd H (by simp)
   rw [if_pos c7] at H
   have c7b0 : decide ((ji5) < (l0.length : Int)) = true := decide_eq_true c7
   clear c7
   replace H := Option.bind_eq_some_iff.mp H
   obtain ⟨t102, A80, H⟩ := H
   (try dsimp only at H)
   have A8 := Aside0.mk A80
   clear A80
   have HC9 := Aside0.mk H
   clear H
   have p101 : 0 ≤ ((ji5) : Int) := of_decide_eq_true (by assumption)
   have q101 : (ji5) < (l0.length : Int) := of_decide_eq_true (by assumption)
   obtain ⟨ad101, e101, hx101_0, hx101_1, hx101_2, hx101_3⟩ := cH_ HR0.out (ji5) p101 q101
   cases e101
   replace hx101_0 := bu_ HB.out hx101_0
   replace hx101_1 := bu_ HB.out hx101_1
   replace hx101_2 := bu_ HB.out hx101_2
   replace hx101_3 := bu_ HB.out hx101_3
   replace p101 := eq_true p101
   replace q101 := eq_true q101
   go_upto_if 31 with (first | (go_at_call 97; (with_reducible refine (cc_.calls ((af_ l0 (ji5)).f0) ((af_ l0 (ji5)).f1.f0) ((af_ l0 (ji5)).f1.f1) ((af_ l0 (ji5)).f1.f2) a1 t102 _ A8.out).mono ?_); rintro e w10 ⟨rfl, hb⟩; replace HB := Aside0.mk (ac_ (bz HB.out) hb); (try clear hb)))
   (try simp only [Act.put, lsa_, ls0_, ls1_])
   have H := HC9.out
   clear HC9
   by_cases c11 : t102 < 0
   rotate_left
   ·rw [if_neg c11] at H
    have c11b0 : decide (t102 < 0) = false := decide_eq_false c11
    clear c11
    (first | rw [c11b0] | (simp only [i64_w, i32_w]; rw [c11b0]) | (simp only [c11b1, Bool.not_true, Bool.not_false]) | (simp only [c11b0, Bool.not_true, Bool.not_false]) | skip)
    have H' := Aside0.mk H
    clear H
    go_wp2
    go_roundg k1
    case measure => have := HK1.out; omega
    case rel => exact ⟨(x9_1), (ji5), (by first | rfl | (simp; done) | (simp [*]; done)), (by first | rfl | (simp; done) | (simp only [← hji5] <;> (first | rfl | simp)) | (simp [*]; done)), H', ⟨by have := HK1.out; omega⟩, ⟨bz HB.out⟩⟩
   rw [if_pos c11] at H
   have c11b0 : decide (t102 < 0) = true := decide_eq_true c11
   clear c11
   (first | rw [c11b0] | (simp only [i64_w, i32_w]; rw [c11b0]) | (simp only [c11b1, Bool.not_true, Bool.not_false]) | (simp only [c11b0, Bool.not_true, Bool.not_false]) | skip)
   have H' := Aside0.mk H
   clear H
   go_wp2
   go_roundg k1
   case measure => have := HK1.out; omega
   case rel => exact ⟨(wrap64 ((ji5) + 1)), (x10_1), (by first | rfl | (simp; done) | (simp only [← hji5] <;> (first | rfl | simp)) | (simp [*]; done)), (by first | rfl | (simp; done) | (simp [*]; done)), H', ⟨by have := HK1.out; omega⟩, ⟨bz HB.out⟩⟩
def cG_.f (k : Nat) (l0 : List (S63)) (a1 : ByteArray) : Option (Int × Bool) := (bo_.f k l0 a1).bind fun bt101 => (some (bt101.1, bt101.2))
set_option maxHeartbeats 8000000 in
set_option maxRecDepth 100000 in
theorem cG_.calls (k : Nat) (A0 : Option Addr) (c0 : Nat) (l0 : List (S63)) (a1 : ByteArray) (r1 : Int) (r2 : Bool) (w : World) (hr0 : Kd.C k63 w A0 l0.length l0) (hc0 : l0.length ≤ c0) (h : cG_.f k l0 a1 = some (r1, r2)) :
  Calls Try.prog 72 #[.slice A0 l0.length c0, .string a1] w fun e w' => e = .returned (.tuple #[.int .i64 r1, .bool r2]) ∧ Below w.heap.size w w' := by
 have HR0 := Aside0.mk hr0
 have HC0 := Aside0.mk hc0
 clear hr0 hc0
 have HB := Aside0.mk (Below.refl w.heap.size w)
 have H : ((bo_.f k l0 a1).bind fun bt101 => (some (bt101.1, bt101.2))) = some (r1, r2) := h
 clear h
 replace H := Option.bind_eq_some_iff.mp H
 obtain ⟨⟨t101, t102⟩, A30, H⟩ := H
 (try dsimp only at H)
 have A3 := Aside0.mk A30
 clear A30
 simp only [Option.some.injEq, Prod.mk.injEq] at H
 obtain ⟨rfl, rfl⟩ := H
 go_enter Try.func72, Try.ntmps72
 go_wp2_with (first | ((with_reducible refine ah_ (f := 96) rfl ?_); refine aN_ (some 8) rfl rfl Try.func96 (by kernel_rfl) rfl #[.slice A0 l0.length c0, .string a1, .func (.func 97) #[] #[]] rfl (by first | rfl | (simp only [lma_, lmc_, lmn_]; first | done | rfl)) ?_; (with_reducible refine (bo_.calls k _ _ l0 a1  t101 t102 _ ?side1 ?side2 A3.out).mono ?_); (case side1 => exact cz HR0.out); (case side2 => exact HC0.out); rintro e w4 ⟨rfl, hb⟩; refine ⟨_, rfl, ?_⟩; replace HB := Aside0.mk (ac_ (bz HB.out) hb); (try clear hb)))
 go_ret2
 exact ⟨by first | rfl | (simp [*, ao_, an_] <;> rfl), bz HB.out⟩
def bF_.f (k : Nat) (l0 : List (S63)) (a1 : ByteArray) : Option (ByteArray × Int × Int) := (cG_.f k l0 a1).bind fun bt102 => (if bt102.2 = true then (if 0 ≤ bt102.1 then (if bt102.1 < (l0.length : Int) then (some ((af_ l0 bt102.1).f1.f0, (af_ l0 bt102.1).f1.f1, (af_ l0 bt102.1).f1.f2)) else (none)) else (none)) else (some ((⟨#[]⟩ : ByteArray), 0, 0)))
set_option maxHeartbeats 8000000 in
set_option maxRecDepth 100000 in
theorem bF_.calls (k : Nat) (A0 : Option Addr) (c0 : Nat) (l0 : List (S63)) (a1 : ByteArray) (r1 : ByteArray) (r2 : Int) (r3 : Int) (w : World) (hr0 : Kd.C k63 w A0 l0.length l0) (hc0 : l0.length ≤ c0) (h : bF_.f k l0 a1 = some (r1, r2, r3)) :
  Calls Try.prog 41 #[.slice A0 l0.length c0, .string a1] w fun e w' => e = .returned (.agg #[.string r1, .int .i64 r2, .int .i64 r3]) ∧ Below w.heap.size w w' := by
 have hu61 := Try.underlying61
 have HR0 := Aside0.mk hr0
 have HC0 := Aside0.mk hc0
 clear hr0 hc0
 have HB := Aside0.mk (Below.refl w.heap.size w)
 have H : ((cG_.f k l0 a1).bind fun bt102 => (if bt102.2 = true then (if 0 ≤ bt102.1 then (if bt102.1 < (l0.length : Int) then (some ((af_ l0 bt102.1).f1.f0, (af_ l0 bt102.1).f1.f1, (af_ l0 bt102.1).f1.f2)) else (none)) else (none)) else (some ((⟨#[]⟩ : ByteArray), 0, 0)))) = some (r1, r2, r3) := h
 clear h
 replace H := Option.bind_eq_some_iff.mp H
 obtain ⟨⟨t102, t103⟩, A30, H⟩ := H
 (try dsimp only at H)
 have A3 := Aside0.mk A30
 clear A30
 have HC4 := Aside0.mk H
 clear H
 go_enter Try.func41, Try.ntmps41
 go_upto_if 13 with (first | ((with_reducible refine aH_ (N := 4) rfl ?_); refine by_ ?hg (N := 4) ?hd (cs := #[.string (⟨#[]⟩ : ByteArray), .int .i64 0, .int .i64 0]) (t := 61) ?hr ?_; (case hd => rfl); (case hg => rfl); (case hr => (go_simp; try rfl)); intro gb101 hg w5 hbox hb; have BK101 := Aside0.mk (hbox); have GW101 := Aside0.mk ((by rw [hg]; exact (ae_ (bz HB.out)) : w.heap.size ≤ gb101)); have GE101 := GW101; replace HB := Aside0.mk (ac_ (bz HB.out) hb); clear hb hbox hg) | ((with_reducible refine ah_ (f := 72) rfl ?_); refine aN_ (some 10) rfl rfl Try.func72 (by kernel_rfl) rfl #[.slice A0 l0.length c0, .string a1] rfl (by first | rfl | (simp only [lma_, lmc_, lmn_]; first | done | rfl)) ?_; (with_reducible refine (cG_.calls k _ _ l0 a1 t102 t103 _ ?side1 ?side2 A3.out).mono ?_); (case side1 => exact cz (Kd.bM_ HR0.out HB.out)); (case side2 => exact HC0.out); rintro e w6 ⟨rfl, hb⟩; refine ⟨_, rfl, ?_⟩; replace BK101 := Aside0.mk (bb_ (kz BK101.out) hb); replace HB := Aside0.mk (ac_ (bq) hb); (try clear hb)))
 (try simp only [Act.put, lsa_, ls0_, ls1_])
 have H := HC4.out
 clear HC4
 by_cases c7 : t103 = true
 rotate_left
 ·replace c7 := Bool.eq_false_iff.mpr c7
  subst c7
  have H1 : (some ((⟨#[]⟩ : ByteArray), 0, 0)) = some (r1, r2, r3) := by rw [if_neg (show ¬ (false = true) by decide)] at H; exact H
  clear H
  have H := H1
  clear H1
  simp only [Option.some.injEq, Prod.mk.injEq] at H
  obtain ⟨rfl, rfl, rfl⟩ := H
  obtain ⟨hcz11_0, hcz11_1, hcz11_2⟩ := cz3_ BK101.out
  obtain ⟨hfz11_0, hfz11_1, hfz11_2⟩ := fz3_ BK101.out
  go_wp2
  refine bodyPost_ret (results_cell_row rfl _ _ gb101 61 #[.string (⟨#[]⟩ : ByteArray), .int .i64 0, .int .i64 0] (0, 0) _ rfl (by exact kj3_2 (kj3_1 (kj3_0 (kz BK101.out)))) Try.underlying61 rfl (by kernel_rfl)) rfl ?_
  exact ⟨by first | rfl | (simp [*, ao_, an_] <;> rfl), bq⟩
 subst c7
 have H1 : (if 0 ≤ t102 then (if t102 < (l0.length : Int) then (some ((af_ l0 t102).f1.f0, (af_ l0 t102).f1.f1, (af_ l0 t102).f1.f2)) else (none)) else (none)) = some (r1, r2, r3) := by rw [if_pos rfl] at H; exact H
 clear H
 have H := H1
 clear H1
 by_cases c8 : 0 ≤ t102
 rotate_left
 ·rw [if_neg c8] at H
  exact absurd H (by simp)
 rw [if_pos c8] at H
 have c8b0 : decide (0 ≤ t102) = true := decide_eq_true c8
 clear c8
 (first | rw [c8b0] | (simp only [i64_w, i32_w]; rw [c8b0]) | (simp only [c8b1, Bool.not_true, Bool.not_false]) | (simp only [c8b0, Bool.not_true, Bool.not_false]) | skip)
 by_cases c9 : t102 < (l0.length : Int)
 rotate_left
 ·rw [if_neg c9] at H
  exact absurd H (by simp)
 rw [if_pos c9] at H
 have c9b0 : decide (t102 < (l0.length : Int)) = true := decide_eq_true c9
 clear c9
 simp only [Option.some.injEq, Prod.mk.injEq] at H
 obtain ⟨rfl, rfl, rfl⟩ := H
 have p104 : 0 ≤ (t102 : Int) := of_decide_eq_true (by assumption)
 have q104 : t102 < (l0.length : Int) := of_decide_eq_true (by assumption)
 obtain ⟨ad104, e104, hx104_0, hx104_1, hx104_2, hx104_3⟩ := cH_ HR0.out t102 p104 q104
 cases e104
 replace hx104_0 := bu_ HB.out hx104_0
 replace hx104_1 := bu_ HB.out hx104_1
 replace hx104_2 := bu_ HB.out hx104_2
 replace hx104_3 := bu_ HB.out hx104_3
 replace p104 := eq_true p104
 replace q104 := eq_true q104
 obtain ⟨hcz10_0, hcz10_1, hcz10_2⟩ := cz3_ BK101.out
 obtain ⟨hfz10_0, hfz10_1, hfz10_2⟩ := fz3_ BK101.out
 go_wp2
 refine bodyPost_ret (results_cell_row rfl _ _ gb101 61 #[.string ((af_ l0 t102).f1.f0), .int .i64 ((af_ l0 t102).f1.f1), .int .i64 ((af_ l0 t102).f1.f2)] (0, 0) _ rfl (by exact kj3_2 (kj3_1 (kj3_0 (kz BK101.out)))) Try.underlying61 rfl (by kernel_rfl)) rfl ?_
 exact ⟨by first | rfl | (simp [*, ao_, an_] <;> rfl), bq⟩
end Go.Proofs.Ytiheginanghhjaa.Q
namespace Go.Proofs.Ytiheginanghhjaa.Q
open Go.RowKit Go.Proofs.YtiheginanghhjaaW.PrintWords Go.Proofs.YtiheginanghhjaaW.PrintLast Go.Proofs.YtiheginanghhjaaW.PrintMore
attribute [local go_sem] aP_ aQ_ bh_ bg_ aE_ aD_ aR_ aO_
attribute [local go_sem high] eqA61
mutual
def av_.j0 : Nat → List (S63) → List (S63) → List (S63) → Bool → Option (List ByteArray × Int)
 | 0, _, _, _, _ => none
 | k + 1, x0, x1, x2, x26 => if x26 = true then (some (([] : List ByteArray), 1)) else ((ba_.f k (([x0, x1, x2] : List (List (S63))))).bind fun t110 => (av_.l0 k x0 x1 x2 (([] : List ByteArray)) t110 (t110.length : Int) 0))
def av_.l0 : Nat → List (S63) → List (S63) → List (S63) → List ByteArray → List ByteArray → Int → Int → Option (List ByteArray × Int)
 | 0, _, _, _, _, _, _, _ => none
 | k + 1, x0, x1, x2, x8, x32, x33, x34 => if x34 < x33 then (if 0 ≤ x34 then (if x34 < (x32.length : Int) then ((bF_.f k x0 (rdOf ByteArray.empty x32 x34)).bind fun bt114 => ((bF_.f k x1 (rdOf ByteArray.empty x32 x34)).bind fun bt117 => ((bF_.f k x2 (rdOf ByteArray.empty x32 x34)).bind fun bt120 => (if (!(bt117.1.toList == bt120.1.toList) || (!(bt117.2.1 == bt120.2.1) || (!(bt117.2.2 == bt120.2.2)))) = true then (if (!(bt117.1.toList == bt114.1.toList) || (!(bt117.2.1 == bt114.2.1) || (!(bt117.2.2 == bt114.2.2)))) = true then (if (!(bt120.1.toList == bt114.1.toList) || (!(bt120.2.1 == bt114.2.1) || (!(bt120.2.2 == bt114.2.2)))) = true then (if x8.length < 8796093022208 then (av_.l0 k x0 x1 x2 (x8 ++ [rdOf ByteArray.empty x32 x34]) x32 x33 (wrap64 (x34 + 1))) else (none)) else (av_.l0 k x0 x1 x2 x8 x32 x33 (wrap64 (x34 + 1)))) else (av_.l0 k x0 x1 x2 x8 x32 x33 (wrap64 (x34 + 1)))) else (av_.l0 k x0 x1 x2 x8 x32 x33 (wrap64 (x34 + 1))))))) else (none)) else (none)) else (some (x8, 0))
end
def av_.f (k : Nat) (l0 : List (S63)) (l1 : List (S63)) (l2 : List (S63)) : Option (List ByteArray × Int) := (am_.f k l0).bind fun t101 => (if t101 = true then ((am_.f k l1).bind fun t102 => (if t102 = true then ((am_.f k l2).bind fun t103 => (av_.j0 k l0 l1 l2 (!t103))) else (av_.j0 k l0 l1 l2 true))) else (av_.j0 k l0 l1 l2 true))
set_option maxHeartbeats 8000000 in
set_option maxRecDepth 100000 in
theorem av_.calls (k : Nat) (P0_ : Nat → Prop) (A0 : Option Addr) (c0 : Nat) (l0 : List (S63)) (P1_ : Nat → Prop) (A1 : Option Addr) (c1 : Nat) (l1 : List (S63)) (P2_ : Nat → Prop) (A2 : Option Addr) (c2 : Nat) (l2 : List (S63)) (r1 : List ByteArray) (r2 : Int) (w : World) (hs0 : Kd.V k63 63 w w.heap.size (fun k_ => P0_ k_) (.slice A0 l0.length c0) l0) (hs1 : Kd.V k63 63 w w.heap.size (fun k_ => P1_ k_) (.slice A1 l1.length c1) l1) (hs2 : Kd.V k63 63 w w.heap.size (fun k_ => P2_ k_) (.slice A2 l2.length c2) l2) (h : av_.f k l0 l1 l2 = some (r1, r2)) :
  Calls Try.prog 10 #[.slice A0 l0.length c0, .slice A1 l1.length c1, .slice A2 l2.length c2] w fun e w' => ∃ v0_ : Value, e = .returned (.tuple #[v0_, .int .i64 r2]) ∧ Kd.R Kd.string 9 w' w.heap.size (fun k_ => (w.heap.size ≤ k_)) v0_ r1 ∧ Below w.heap.size w w' := by
 have hu61 := Try.underlying61
 have HO0 := Aside0.mk (show Kd.V k63 63 w w.heap.size (fun k_ => ((P0_ k_ ∨ P1_ k_ ∨ P2_ k_) ∨ w.heap.size ≤ k_)) (.slice A0 l0.length c0) l0 from Kd.aJ_ hs0 (fun k_ hk => .inl (.inl hk)))
 have HO1 := Aside0.mk (show Kd.V k63 63 w w.heap.size (fun k_ => ((P0_ k_ ∨ P1_ k_ ∨ P2_ k_) ∨ w.heap.size ≤ k_)) (.slice A1 l1.length c1) l1 from Kd.aJ_ hs1 (fun k_ hk => .inl (.inr (.inl hk))))
 have HO2 := Aside0.mk (show Kd.V k63 63 w w.heap.size (fun k_ => ((P0_ k_ ∨ P1_ k_ ∨ P2_ k_) ∨ w.heap.size ≤ k_)) (.slice A2 l2.length c2) l2 from Kd.aJ_ hs2 (fun k_ hk => .inl (.inr (.inr hk))))
 have HB := Aside0.mk (Below.refl w.heap.size w)
 have H : ((am_.f k l0).bind fun t101 => (if t101 = true then ((am_.f k l1).bind fun t102 => (if t102 = true then ((am_.f k l2).bind fun t103 => (av_.j0 k l0 l1 l2 (!t103))) else (av_.j0 k l0 l1 l2 true))) else (av_.j0 k l0 l1 l2 true))) = some (r1, r2) := h
 clear h
 have HC4 := Aside0.mk H
 clear H
 go_enter Try.func10, Try.ntmps10
 go_upto_region 1 with (fail)
 go_cut [26] (fun v26 wc => ∃ (kq : Nat) (x26_3 : Bool), v26 = .bool x26_3 ∧ Aside0 (av_.j0 kq l0 l1 l2 x26_3 = some (r1, r2)) ∧ Aside0 (kq ≤ k) ∧ Aside0 (Kd.V k63 63 wc w.heap.size (fun k_ => ((P0_ k_ ∨ P1_ k_ ∨ P2_ k_) ∨ w.heap.size ≤ k_)) (.slice A0 l0.length c0) l0) ∧ Aside0 (Kd.V k63 63 wc w.heap.size (fun k_ => ((P0_ k_ ∨ P1_ k_ ∨ P2_ k_) ∨ w.heap.size ≤ k_)) (.slice A1 l1.length c1) l1) ∧ Aside0 (Kd.V k63 63 wc w.heap.size (fun k_ => ((P0_ k_ ∨ P1_ k_ ∨ P2_ k_) ∨ w.heap.size ≤ k_)) (.slice A2 l2.length c2) l2) ∧ Aside0 (Below w.heap.size w wc))
 case first =>
  have H := HC4.out
  clear HC4
  replace H := Option.bind_eq_some_iff.mp H
  obtain ⟨t101, A50, H⟩ := H
  (try dsimp only at H)
  have A5 := Aside0.mk A50
  clear A50
  by_cases c6 : t101 = true
  rotate_left
  ·replace c6 := Bool.eq_false_iff.mpr c6
   subst c6
   have H1 : (av_.j0 k l0 l1 l2 true) = some (r1, r2) := by rw [if_neg (show ¬ (false = true) by decide)] at H; exact H
   clear H
   have H := H1
   clear H1
   have H' := Aside0.mk H
   clear H
   go_wp2_with (first | ((with_reducible refine ah_ (f := 39) rfl ?_); refine aN_ (some 15) rfl rfl Try.func39 (by kernel_rfl) rfl #[.slice A0 l0.length c0] rfl (by first | rfl | (simp only [lma_, lmc_, lmn_]; first | done | rfl)) ?_; (with_reducible refine (am_.calls k _ _ l0 false _ ?side1 ?side2 A5.out).mono ?_); (case side1 => exact cz (Kd.bz_ HO0.out).2.2); (case side2 => exact (Kd.bz_ HO0.out).2.1); rintro e w15 ⟨rfl, hb⟩; refine ⟨_, rfl, ?_⟩; replace HO0 := Aside0.mk (Kd.aU_ (vz HO0.out) hb); replace HO1 := Aside0.mk (Kd.aU_ (vz HO1.out) hb); replace HO2 := Aside0.mk (Kd.aU_ (vz HO2.out) hb); replace HB := Aside0.mk (ac_ (bz HB.out) hb); (try clear hb)))
   go_meet
   case rel => exact ⟨_, (true), (by first | rfl | (simp; done) | (simp [*]; done)), H', ⟨by first | omega | exact Nat.le_refl _⟩, ⟨vz HO0.out⟩, ⟨vz HO1.out⟩, ⟨vz HO2.out⟩, ⟨bz HB.out⟩⟩
  subst c6
  have H1 : ((am_.f k l1).bind fun t102 => (if t102 = true then ((am_.f k l2).bind fun t103 => (av_.j0 k l0 l1 l2 (!t103))) else (av_.j0 k l0 l1 l2 true))) = some (r1, r2) := by rw [if_pos rfl] at H; exact H
  clear H
  have H := H1
  clear H1
  replace H := Option.bind_eq_some_iff.mp H
  obtain ⟨t102, A70, H⟩ := H
  (try dsimp only at H)
  have A7 := Aside0.mk A70
  clear A70
  by_cases c8 : t102 = true
  rotate_left
  ·replace c8 := Bool.eq_false_iff.mpr c8
   subst c8
   have H1 : (av_.j0 k l0 l1 l2 true) = some (r1, r2) := by rw [if_neg (show ¬ (false = true) by decide)] at H; exact H
   clear H
   have H := H1
   clear H1
   have H' := Aside0.mk H
   clear H
   go_wp2_with (first | ((with_reducible refine ah_ (f := 39) rfl ?_); refine aN_ (some 15) rfl rfl Try.func39 (by kernel_rfl) rfl #[.slice A0 l0.length c0] rfl (by first | rfl | (simp only [lma_, lmc_, lmn_]; first | done | rfl)) ?_; (with_reducible refine (am_.calls k _ _ l0 true _ ?side1 ?side2 A5.out).mono ?_); (case side1 => exact cz (Kd.bz_ HO0.out).2.2); (case side2 => exact (Kd.bz_ HO0.out).2.1); rintro e w13 ⟨rfl, hb⟩; refine ⟨_, rfl, ?_⟩; replace HO0 := Aside0.mk (Kd.aU_ (vz HO0.out) hb); replace HO1 := Aside0.mk (Kd.aU_ (vz HO1.out) hb); replace HO2 := Aside0.mk (Kd.aU_ (vz HO2.out) hb); replace HB := Aside0.mk (ac_ (bz HB.out) hb); (try clear hb)) | (go_at_call 39; (with_reducible refine (am_.calls k _ _ l1 false _ ?side1 ?side2 A7.out).mono ?_); (case side1 => exact cz (Kd.bz_ HO1.out).2.2); (case side2 => exact (Kd.bz_ HO1.out).2.1); rintro e w14 ⟨rfl, hb⟩; replace HO0 := Aside0.mk (Kd.aU_ (vz HO0.out) hb); replace HO1 := Aside0.mk (Kd.aU_ (vz HO1.out) hb); replace HO2 := Aside0.mk (Kd.aU_ (vz HO2.out) hb); replace HB := Aside0.mk (ac_ (bz HB.out) hb); (try clear hb)))
   go_meet
   case rel => exact ⟨_, (true), (by first | rfl | (simp; done) | (simp [*]; done)), H', ⟨by first | omega | exact Nat.le_refl _⟩, ⟨vz HO0.out⟩, ⟨vz HO1.out⟩, ⟨vz HO2.out⟩, ⟨bz HB.out⟩⟩
  subst c8
  have H1 : ((am_.f k l2).bind fun t103 => (av_.j0 k l0 l1 l2 (!t103))) = some (r1, r2) := by rw [if_pos rfl] at H; exact H
  clear H
  have H := H1
  clear H1
  replace H := Option.bind_eq_some_iff.mp H
  obtain ⟨t103, A90, H⟩ := H
  (try dsimp only at H)
  have A9 := Aside0.mk A90
  clear A90
  have H' := Aside0.mk H
  clear H
  go_wp2_with (first | ((with_reducible refine ah_ (f := 39) rfl ?_); refine aN_ (some 15) rfl rfl Try.func39 (by kernel_rfl) rfl #[.slice A0 l0.length c0] rfl (by first | rfl | (simp only [lma_, lmc_, lmn_]; first | done | rfl)) ?_; (with_reducible refine (am_.calls k _ _ l0 true _ ?side1 ?side2 A5.out).mono ?_); (case side1 => exact cz (Kd.bz_ HO0.out).2.2); (case side2 => exact (Kd.bz_ HO0.out).2.1); rintro e w10 ⟨rfl, hb⟩; refine ⟨_, rfl, ?_⟩; replace HO0 := Aside0.mk (Kd.aU_ (vz HO0.out) hb); replace HO1 := Aside0.mk (Kd.aU_ (vz HO1.out) hb); replace HO2 := Aside0.mk (Kd.aU_ (vz HO2.out) hb); replace HB := Aside0.mk (ac_ (bz HB.out) hb); (try clear hb)) | (go_at_call 39; (with_reducible refine (am_.calls k _ _ l1 true _ ?side1 ?side2 A7.out).mono ?_); (case side1 => exact cz (Kd.bz_ HO1.out).2.2); (case side2 => exact (Kd.bz_ HO1.out).2.1); rintro e w11 ⟨rfl, hb⟩; replace HO0 := Aside0.mk (Kd.aU_ (vz HO0.out) hb); replace HO1 := Aside0.mk (Kd.aU_ (vz HO1.out) hb); replace HO2 := Aside0.mk (Kd.aU_ (vz HO2.out) hb); replace HB := Aside0.mk (ac_ (bz HB.out) hb); (try clear hb)) | (go_at_call 39; (with_reducible refine (am_.calls k _ _ l2 t103 _ ?side1 ?side2 A9.out).mono ?_); (case side1 => exact cz (Kd.bz_ HO2.out).2.2); (case side2 => exact (Kd.bz_ HO2.out).2.1); rintro e w12 ⟨rfl, hb⟩; replace HO0 := Aside0.mk (Kd.aU_ (vz HO0.out) hb); replace HO1 := Aside0.mk (Kd.aU_ (vz HO1.out) hb); replace HO2 := Aside0.mk (Kd.aU_ (vz HO2.out) hb); replace HB := Aside0.mk (ac_ (bz HB.out) hb); (try clear hb)))
  go_meet
  case rel => exact ⟨_, (!t103), (by first | rfl | (simp; done) | (simp [*]; done)), H', ⟨by first | omega | exact Nat.le_refl _⟩, ⟨vz HO0.out⟩, ⟨vz HO1.out⟩, ⟨vz HO2.out⟩, ⟨bz HB.out⟩⟩
 case rest =>
  clear HC4
  obtain ⟨kq, x26_3, rfl, HA, HJ3, HO_0, HO_1, HO_2, HB⟩ := hcut
  cases kq with
  | zero => exact absurd HA.out (by simp [av_.j0])
  | succ kj3 =>
   have H := HA.out
   clear HA
   simp only [av_.j0] at H
   by_cases c16 : x26_3 = true
   rotate_left
   ·replace c16 := Bool.eq_false_iff.mpr c16
    subst c16
    have H1 : ((ba_.f kj3 (([l0, l1, l2] : List (List (S63))))).bind fun t110 => (av_.l0 kj3 l0 l1 l2 (([] : List ByteArray)) t110 (t110.length : Int) 0)) = some (r1, r2) := by rw [if_neg (show ¬ (false = true) by decide)] at H; exact H
    clear H
    have H := H1
    clear H1
    obtain ⟨y104, hy104⟩ : ∃ y_ : List ByteArray, y_ = (([] : List ByteArray)) := ⟨_, rfl⟩
    replace H : ((ba_.f kj3 (([l0, l1, l2] : List (List (S63))))).bind fun t110 => (av_.l0 kj3 l0 l1 l2 y104 t110 (t110.length : Int) 0)) = some (r1, r2) := by first | (rw [hy104]; with_reducible exact H) | (have H2_ := (Option.bind_some _ _).symm.trans H; rw [hy104]; with_reducible exact H2_) | (have H2_ := (Option.bind_some _ _).symm.trans H; with_reducible exact H2_) | with_reducible exact H | (rw [hy104]; exact H) | exact H
    have Ny104 := Aside0.mk hy104
    clear hy104
    obtain ⟨y107, hy107⟩ : ∃ y_ : List (List (S63)), y_ = (([l0, l1, l2] : List (List (S63)))) := ⟨_, rfl⟩
    replace H : ((ba_.f kj3 y107).bind fun t110 => (av_.l0 kj3 l0 l1 l2 y104 t110 (t110.length : Int) 0)) = some (r1, r2) := by first | (rw [hy107]; with_reducible exact H) | (have H2_ := (Option.bind_some _ _).symm.trans H; rw [hy107]; with_reducible exact H2_) | (have H2_ := (Option.bind_some _ _).symm.trans H; with_reducible exact H2_) | with_reducible exact H | (rw [hy107]; exact H) | exact H
    have Ny107 := Aside0.mk hy107
    clear hy107
    replace H := Option.bind_eq_some_iff.mp H
    obtain ⟨t110, A170, H⟩ := H
    (try dsimp only at H)
    have A17 := Aside0.mk A170
    clear A170
    have H' := Aside0.mk H
    clear H
    go_wp2_with (first | ((with_reducible refine aH_ (N := 27) rfl ?_); refine Kd.R_lit Kd.string _ 9 ?hg (N := 27) ?hd (xs := ([] : List ByteArray)) (inner := []) (ok := fun _ => True) (okp := fun _ => True) ?hr ?hp (fun _ hk => hk) trivial (Below.refl _ _) (Nat.le_refl _) (by simp) ?_; (case hd => rfl); (case hg => rfl); (case hr => (go_simp; try rfl)); (case hp => exact (Reps.none _ _)); intro v105 w18 ho19 hb hg_ hnew_; clear hg_ hnew_; (first | rw [← Ny104.out] at ho19 | (simp only [Int.reduceToNat] at ho19; rw [← Ny104.out] at ho19)); replace HO_0 := Aside0.mk (Kd.bQ_ (vz HO_0.out) (Kd.aZ_ ho19) hb); replace HO_1 := Aside0.mk (Kd.bQ_ (vz HO_1.out) (Kd.aZ_ ho19) hb); replace HO_2 := Aside0.mk (Kd.bQ_ (vz HO_2.out) (Kd.aZ_ ho19) hb); have HO106 := Aside0.mk (Kd.bt_ (Kd.do_ (M := fun k_ => (w.heap.size ≤ k_)) ho19 (ae_ (bz HB.out)) (fun k_ h_ => h_)) (ae_ (bz HB.out))); replace HB := Aside0.mk (ac_ (bz HB.out) hb); clear hb ho19) | ((with_reducible refine aH_ (N := 31) rfl ?_); refine Kd.N_lit (Kd.slice 63 k63) _ 27 ?hg (N' := 31) ?hd (xs := ([l0, l1, l2] : List (List (S63)))) (inner := [.slice A0 l0.length c0, .slice A1 l1.length c1, .slice A2 l2.length c2]) (ok := (fun k_ => ((P0_ k_ ∨ P1_ k_ ∨ P2_ k_) ∨ w.heap.size ≤ k_) ∧ some k_ ≠ (v105 : Value).ownBlock)) (okp := (fun k_ => ((P0_ k_ ∨ P1_ k_ ∨ P2_ k_) ∨ w.heap.size ≤ k_) ∧ some k_ ≠ (v105 : Value).ownBlock)) ?hr ?hp (fun _ hk => hk) ((show ∀ k_, w18.heap.size ≤ k_ → (fun k_ => ((P0_ k_ ∨ P1_ k_ ∨ P2_ k_) ∨ w.heap.size ≤ k_) ∧ some k_ ≠ (v105 : Value).ownBlock) k_ from fun k_ hk => ⟨(.inr (Nat.le_trans (ae_ (bz HB.out)) hk)), Kd.fresh' (Kd.R_lt (rz HO106.out)) k_ hk⟩) _ (Nat.le_refl _)) (Below.refl _ _) (Nat.le_refl _) (by simp) ?_; (case hd => rfl); (case hg => rfl); (case hr => (go_simp; try rfl)); (case hp => exact (Reps.one (show Kd.FK (Kd.slice 63 k63) _ _ l0 [.slice A0 l0.length c0] from (Kd.cg_ (Kd.bz_ (Kd.aJ_ (ok' := (fun k_ => ((P0_ k_ ∨ P1_ k_ ∨ P2_ k_) ∨ w.heap.size ≤ k_) ∧ some k_ ≠ (v105 : Value).ownBlock)) (HO_0.out) (fun k_ hk => ⟨hk.1, hk.2⟩))).2.1 (Kd.V_F (Kd.aJ_ (ok' := (fun k_ => ((P0_ k_ ∨ P1_ k_ ∨ P2_ k_) ∨ w.heap.size ≤ k_) ∧ some k_ ≠ (v105 : Value).ownBlock)) (HO_0.out) (fun k_ hk => ⟨hk.1, hk.2⟩))))) (Reps.one (show Kd.FK (Kd.slice 63 k63) _ _ l1 [.slice A1 l1.length c1] from (Kd.cg_ (Kd.bz_ (Kd.aJ_ (ok' := (fun k_ => ((P0_ k_ ∨ P1_ k_ ∨ P2_ k_) ∨ w.heap.size ≤ k_) ∧ some k_ ≠ (v105 : Value).ownBlock)) (HO_1.out) (fun k_ hk => ⟨hk.1, hk.2⟩))).2.1 (Kd.V_F (Kd.aJ_ (ok' := (fun k_ => ((P0_ k_ ∨ P1_ k_ ∨ P2_ k_) ∨ w.heap.size ≤ k_) ∧ some k_ ≠ (v105 : Value).ownBlock)) (HO_1.out) (fun k_ hk => ⟨hk.1, hk.2⟩))))) (Reps.one (show Kd.FK (Kd.slice 63 k63) _ _ l2 [.slice A2 l2.length c2] from (Kd.cg_ (Kd.bz_ (Kd.aJ_ (ok' := (fun k_ => ((P0_ k_ ∨ P1_ k_ ∨ P2_ k_) ∨ w.heap.size ≤ k_) ∧ some k_ ≠ (v105 : Value).ownBlock)) (HO_2.out) (fun k_ hk => ⟨hk.1, hk.2⟩))).2.1 (Kd.V_F (Kd.aJ_ (ok' := (fun k_ => ((P0_ k_ ∨ P1_ k_ ∨ P2_ k_) ∨ w.heap.size ≤ k_) ∧ some k_ ≠ (v105 : Value).ownBlock)) (HO_2.out) (fun k_ hk => ⟨hk.1, hk.2⟩))))) (Reps.none _ _))))); intro v108 w20 ho21 hb hg_ hnew_; clear hg_ hnew_; (first | rw [← Ny107.out] at ho21 | (simp only [Int.reduceToNat] at ho21; rw [← Ny107.out] at ho21)); replace HO_0 := Aside0.mk (Kd.bQ_ (vz HO_0.out) (Kd.N_base ho21) hb); replace HO_1 := Aside0.mk (Kd.bQ_ (vz HO_1.out) (Kd.N_base ho21) hb); replace HO_2 := Aside0.mk (Kd.bQ_ (vz HO_2.out) (Kd.N_base ho21) hb); replace HO106 := Aside0.mk (Kd.aT_ (rz HO106.out) hb); have HO109 := Aside0.mk (Kd.ds_ ho21 (ae_ (bz HB.out))); replace HB := Aside0.mk (ac_ (bz HB.out) hb); clear hb ho21; obtain ⟨Ao22, co22, eo22⟩ := Kd.N_slice HO109.out; subst eo22) | ((with_reducible refine ah_ (f := 40) rfl ?_); refine aN_ (some 32) rfl rfl Try.func40 (by kernel_rfl) rfl #[.slice Ao22 y107.length co22] rfl (by first | rfl | (simp only [lma_, lmc_, lmn_]; first | done | rfl)) ?_; (with_reducible refine (ba_.calls kj3 _ _ y107 t110 _ ?side1 ?side2 A17.out).mono ?_); (case side1 => exact cz (Kd.da_ HO109.out).2.2); (case side2 => exact (Kd.da_ HO109.out).2.1); rintro e w23 ⟨v111, rfl, ho0, hb⟩; refine ⟨_, rfl, ?_⟩; replace HO_0 := Aside0.mk (Kd.bQ_ (vz HO_0.out) (Kd.aZ_ ho0) hb); replace HO_1 := Aside0.mk (Kd.bQ_ (vz HO_1.out) (Kd.aZ_ ho0) hb); replace HO_2 := Aside0.mk (Kd.bQ_ (vz HO_2.out) (Kd.aZ_ ho0) hb); replace HO109 := Aside0.mk (Kd.N_elder' (nz HO109.out) (Kd.aZ_ ho0) hb); have HO112 := Aside0.mk (Kd.bt_ (Kd.bB_ (Kd.do_ (M := fun k_ => (w.heap.size ≤ k_)) ho0 (ae_ (bz HB.out)) (fun k_ h_ => h_)) (Kd.R_lt (rz HO106.out))) (ae_ (bz HB.out))); replace HO106 := Aside0.mk (Kd.aK_ (rz HO106.out) (Kd.aZ_ ho0) hb); replace HB := Aside0.mk (ac_ (bz HB.out) hb); (try clear hb); (try clear ho0); obtain ⟨Ao24, co24, eo24⟩ := Kd.bn_ HO112.out; subst eo24))
    (try simp only [Act.put, lsa_, ls0_, ls1_])
    go_loopg [8, 34] kj3 (fun kq v8 v34 w' => ∃ (x8_2 : List ByteArray) (x34_2 : Int), v34 = .int .i64 x34_2 ∧ Aside0 (av_.l0 kq l0 l1 l2 x8_2 t110 (t110.length : Int) x34_2 = some (r1, r2)) ∧ Aside0 (kq ≤ kj3) ∧ Aside0 (Kd.V k63 63 w' w.heap.size (fun k_ => ((P0_ k_ ∨ P1_ k_ ∨ P2_ k_) ∨ w.heap.size ≤ k_) ∧ some k_ ≠ (v8 : Value).ownBlock ∧ some k_ ≠ ((.slice Ao24 t110.length co24) : Value).ownBlock) (.slice A0 l0.length c0) l0) ∧ Aside0 (Kd.V k63 63 w' w.heap.size (fun k_ => ((P0_ k_ ∨ P1_ k_ ∨ P2_ k_) ∨ w.heap.size ≤ k_) ∧ some k_ ≠ (v8 : Value).ownBlock ∧ some k_ ≠ ((.slice Ao24 t110.length co24) : Value).ownBlock) (.slice A1 l1.length c1) l1) ∧ Aside0 (Kd.V k63 63 w' w.heap.size (fun k_ => ((P0_ k_ ∨ P1_ k_ ∨ P2_ k_) ∨ w.heap.size ≤ k_) ∧ some k_ ≠ (v8 : Value).ownBlock ∧ some k_ ≠ ((.slice Ao24 t110.length co24) : Value).ownBlock) (.slice A2 l2.length c2) l2) ∧ Aside0 (Kd.R Kd.string 9 w' w.heap.size (fun k_ => (w.heap.size ≤ k_) ∧ some k_ ≠ ((.slice Ao24 t110.length co24) : Value).ownBlock) v8 x8_2) ∧ Aside0 (Kd.R Kd.string 9 w' w.heap.size (fun k_ => (w.heap.size ≤ k_) ∧ some k_ ≠ (v8 : Value).ownBlock) (.slice Ao24 t110.length co24) t110) ∧ Aside0 (Below w.heap.size w w'))
    case atStart => exact ⟨(y104), (0), (by first | rfl | (simp; done) | (simp [*]; done)), H', ⟨Nat.le_refl _⟩, ⟨vz (Kd.aJ_ HO_0.out (fun _ hk => ⟨hk.1.1.1, ⟨hk.1.1.2, hk.2⟩⟩))⟩, ⟨vz (Kd.aJ_ HO_1.out (fun _ hk => ⟨hk.1.1.1, ⟨hk.1.1.2, hk.2⟩⟩))⟩, ⟨vz (Kd.aJ_ HO_2.out (fun _ hk => ⟨hk.1.1.1, ⟨hk.1.1.2, hk.2⟩⟩))⟩, ⟨rz (Kd.aB_ HO106.out (fun _ hk => ⟨hk.1.1, hk.2⟩))⟩, ⟨rz (Kd.aB_ HO112.out (fun _ hk => ⟨hk.1.1, hk.2⟩))⟩, ⟨bz HB.out⟩⟩
    case round =>
     clear H'
     obtain ⟨x8_2, x34_2, rfl, HA, HK2, HO_0, HO_1, HO_2, HO_8, HO_32, HB⟩ := hrel
     cases gk with
     | zero => exact absurd HA.out (by simp [av_.l0])
     | succ k2 =>
      have H := HA.out
      clear HA
      simp only [av_.l0] at H
      by_cases c25 : x34_2 < (t110.length : Int)
      rotate_left
      ·rw [if_neg c25] at H
       have c25b0 : decide (x34_2 < (t110.length : Int)) = false := decide_eq_false c25
       clear c25
       simp only [Option.some.injEq, Prod.mk.injEq] at H
       obtain ⟨rfl, rfl⟩ := H
       go_wp2
       go_ret2
       exact ⟨_, by first | rfl | (simp [*, ao_, an_] <;> rfl), rz (Kd.aB_ HO_8.out (fun _ hk => hk.1)), bz HB.out⟩
      rw [if_pos c25] at H
      have c25b0 : decide (x34_2 < (t110.length : Int)) = true := decide_eq_true c25
      clear c25
      by_cases c26 : 0 ≤ x34_2
      rotate_left
      ·rw [if_neg c26] at H
       exact absurd H (by simp)
      rw [if_pos c26] at H
      have c26b0 : decide (0 ≤ x34_2) = true := decide_eq_true c26
      clear c26
      by_cases c27 : x34_2 < (t110.length : Int)
      rotate_left
      ·rw [if_neg c27] at H
       exact absurd H (by simp)
      rw [if_pos c27] at H
      have c27b0 : decide (x34_2 < (t110.length : Int)) = true := decide_eq_true c27
      clear c27
      replace H := Option.bind_eq_some_iff.mp H
      obtain ⟨⟨t114, t115, t116⟩, A280, H⟩ := H
      (try dsimp only at H)
      have A28 := Aside0.mk A280
      clear A280
      replace H := Option.bind_eq_some_iff.mp H
      obtain ⟨⟨t117, t118, t119⟩, A290, H⟩ := H
      (try dsimp only at H)
      have A29 := Aside0.mk A290
      clear A290
      replace H := Option.bind_eq_some_iff.mp H
      obtain ⟨⟨t120, t121, t122⟩, A300, H⟩ := H
      (try dsimp only at H)
      have A30 := Aside0.mk A300
      clear A300
      by_cases c31 : (!(t117.toList == t120.toList) || (!(t118 == t121) || (!(t119 == t122)))) = true
      rotate_left
      ·rw [if_neg c31] at H
       have c31b0 : (!(t117.toList == t120.toList) || (!(t118 == t121) || (!(t119 == t122)))) = false := by simpa using c31
       clear c31
       have H' := Aside0.mk H
       clear H
       have p113 : 0 ≤ (x34_2 : Int) := of_decide_eq_true (by assumption)
       have q113 : x34_2 < (t110.length : Int) := of_decide_eq_true (by assumption)
       obtain ⟨ad113, e113, hx113_0⟩ := Kd.cz_ (Kd.as_ HO_32.out).2.2 x34_2 p113 q113
       cases e113
       replace p113 := eq_true p113
       replace q113 := eq_true q113
       go_wp2_with (first | ((with_reducible refine ah_ (f := 41) rfl ?_); refine aN_ (some 40) rfl rfl Try.func41 (by kernel_rfl) rfl #[.slice A0 l0.length c0, .string (rdOf ByteArray.empty t110 x34_2)] rfl (by first | rfl | (simp only [lma_, lmc_, lmn_]; first | done | rfl)) ?_; (with_reducible refine (bF_.calls k2 _ _ l0 (rdOf ByteArray.empty t110 x34_2) t114 t115 t116 _ ?side1 ?side2 A28.out).mono ?_); (case side1 => exact cz (Kd.bz_ HO_0.out).2.2); (case side2 => exact (Kd.bz_ HO_0.out).2.1); rintro e w61 ⟨rfl, hb⟩; refine ⟨_, rfl, ?_⟩; replace HO_0 := Aside0.mk (Kd.aU_ (vz HO_0.out) hb); replace HO_1 := Aside0.mk (Kd.aU_ (vz HO_1.out) hb); replace HO_2 := Aside0.mk (Kd.aU_ (vz HO_2.out) hb); replace HO_8 := Aside0.mk (Kd.aT_ (rz HO_8.out) hb); replace HO_32 := Aside0.mk (Kd.aT_ (rz HO_32.out) hb); replace HB := Aside0.mk (ac_ (bz HB.out) hb); (try clear hb)) | ((with_reducible refine ah_ (f := 41) rfl ?_); refine aN_ (some 43) rfl rfl Try.func41 (by kernel_rfl) rfl #[.slice A1 l1.length c1, .string (rdOf ByteArray.empty t110 x34_2)] rfl (by first | rfl | (simp only [lma_, lmc_, lmn_]; first | done | rfl)) ?_; (with_reducible refine (bF_.calls k2 _ _ l1 (rdOf ByteArray.empty t110 x34_2) t117 t118 t119 _ ?side1 ?side2 A29.out).mono ?_); (case side1 => exact cz (Kd.bz_ HO_1.out).2.2); (case side2 => exact (Kd.bz_ HO_1.out).2.1); rintro e w62 ⟨rfl, hb⟩; refine ⟨_, rfl, ?_⟩; replace HO_0 := Aside0.mk (Kd.aU_ (vz HO_0.out) hb); replace HO_1 := Aside0.mk (Kd.aU_ (vz HO_1.out) hb); replace HO_2 := Aside0.mk (Kd.aU_ (vz HO_2.out) hb); replace HO_8 := Aside0.mk (Kd.aT_ (rz HO_8.out) hb); replace HO_32 := Aside0.mk (Kd.aT_ (rz HO_32.out) hb); replace HB := Aside0.mk (ac_ (bz HB.out) hb); (try clear hb)) | ((with_reducible refine ah_ (f := 41) rfl ?_); refine aN_ (some 46) rfl rfl Try.func41 (by kernel_rfl) rfl #[.slice A2 l2.length c2, .string (rdOf ByteArray.empty t110 x34_2)] rfl (by first | rfl | (simp only [lma_, lmc_, lmn_]; first | done | rfl)) ?_; (with_reducible refine (bF_.calls k2 _ _ l2 (rdOf ByteArray.empty t110 x34_2) t120 t121 t122 _ ?side1 ?side2 A30.out).mono ?_); (case side1 => exact cz (Kd.bz_ HO_2.out).2.2); (case side2 => exact (Kd.bz_ HO_2.out).2.1); rintro e w63 ⟨rfl, hb⟩; refine ⟨_, rfl, ?_⟩; replace HO_0 := Aside0.mk (Kd.aU_ (vz HO_0.out) hb); replace HO_1 := Aside0.mk (Kd.aU_ (vz HO_1.out) hb); replace HO_2 := Aside0.mk (Kd.aU_ (vz HO_2.out) hb); replace HO_8 := Aside0.mk (Kd.aT_ (rz HO_8.out) hb); replace HO_32 := Aside0.mk (Kd.aT_ (rz HO_32.out) hb); replace HB := Aside0.mk (ac_ (bz HB.out) hb); (try clear hb)) | ((with_reducible refine aH_ (N := 11) rfl ?_); refine by_ ?hg (N := 11) ?hd (cs := #[.string (⟨#[]⟩ : ByteArray), .int .i64 0, .int .i64 0]) (t := 61) ?hr ?_; (case hd => rfl); (case hg => rfl); (case hr => (go_simp; try rfl)); intro gb123 hg w64 hbox hb; replace HO_0 := Aside0.mk (Kd.aU_ (Kd.bJ_ (vz HO_0.out) gb123 (Nat.le_of_eq hg.symm)) hb); replace HO_1 := Aside0.mk (Kd.aU_ (Kd.bJ_ (vz HO_1.out) gb123 (Nat.le_of_eq hg.symm)) hb); replace HO_2 := Aside0.mk (Kd.aU_ (Kd.bJ_ (vz HO_2.out) gb123 (Nat.le_of_eq hg.symm)) hb); replace HO_8 := Aside0.mk (Kd.aT_ (rz HO_8.out) hb); replace HO_32 := Aside0.mk (Kd.aT_ (rz HO_32.out) hb); have BK123 := Aside0.mk (hbox); have GW123 := Aside0.mk ((by rw [hg]; exact (ae_ (bz HB.out)) : w.heap.size ≤ gb123)); have GE123 := GW123; replace HB := Aside0.mk (ac_ (bz HB.out) hb); clear hb hbox hg) | ((with_reducible refine aH_ (N := 12) rfl ?_); refine by_ ?hg (N := 12) ?hd (cs := #[.string (⟨#[]⟩ : ByteArray), .int .i64 0, .int .i64 0]) (t := 61) ?hr ?_; (case hd => rfl); (case hg => rfl); (case hr => (go_simp; try rfl)); intro gb124 hg w65 hbox hb; replace HO_0 := Aside0.mk (Kd.aU_ (Kd.bJ_ (vz HO_0.out) gb124 (Nat.le_of_eq hg.symm)) hb); replace HO_1 := Aside0.mk (Kd.aU_ (Kd.bJ_ (vz HO_1.out) gb124 (Nat.le_of_eq hg.symm)) hb); replace HO_2 := Aside0.mk (Kd.aU_ (Kd.bJ_ (vz HO_2.out) gb124 (Nat.le_of_eq hg.symm)) hb); replace HO_8 := Aside0.mk (Kd.aT_ (rz HO_8.out) hb); replace HO_32 := Aside0.mk (Kd.aT_ (rz HO_32.out) hb); have BK124 := Aside0.mk (hbox); have GW124 := Aside0.mk ((by rw [hg]; exact (ae_ (bq)) : w.heap.size ≤ gb124)); have GE124 := GW124; replace HB := Aside0.mk (ac_ (bq) hb); have NB123_124 := Aside0.mk ((by rw [hg]; exact Nat.ne_of_lt (ck_ (kz BK123.out)) : gb123 ≠ gb124)); have NB124_123 := Aside0.mk ((by rw [hg]; exact Nat.ne_of_gt (ck_ (kz BK123.out)) : gb124 ≠ gb123)); replace BK123 := Aside0.mk (bb_ (kz BK123.out) hb); clear hb hbox hg) | ((with_reducible refine aH_ (N := 13) rfl ?_); refine by_ ?hg (N := 13) ?hd (cs := #[.string (⟨#[]⟩ : ByteArray), .int .i64 0, .int .i64 0]) (t := 61) ?hr ?_; (case hd => rfl); (case hg => rfl); (case hr => (go_simp; try rfl)); intro gb125 hg w66 hbox hb; replace HO_0 := Aside0.mk (Kd.aU_ (Kd.bJ_ (vz HO_0.out) gb125 (Nat.le_of_eq hg.symm)) hb); replace HO_1 := Aside0.mk (Kd.aU_ (Kd.bJ_ (vz HO_1.out) gb125 (Nat.le_of_eq hg.symm)) hb); replace HO_2 := Aside0.mk (Kd.aU_ (Kd.bJ_ (vz HO_2.out) gb125 (Nat.le_of_eq hg.symm)) hb); replace HO_8 := Aside0.mk (Kd.aT_ (rz HO_8.out) hb); replace HO_32 := Aside0.mk (Kd.aT_ (rz HO_32.out) hb); have BK125 := Aside0.mk (hbox); have GW125 := Aside0.mk ((by rw [hg]; exact (ae_ (bq)) : w.heap.size ≤ gb125)); have GE125 := GW125; replace HB := Aside0.mk (ac_ (bq) hb); have NB123_125 := Aside0.mk ((by rw [hg]; exact Nat.ne_of_lt (ck_ (kz BK123.out)) : gb123 ≠ gb125)); have NB125_123 := Aside0.mk ((by rw [hg]; exact Nat.ne_of_gt (ck_ (kz BK123.out)) : gb125 ≠ gb123)); replace BK123 := Aside0.mk (bb_ (kz BK123.out) hb); have NB124_125 := Aside0.mk ((by rw [hg]; exact Nat.ne_of_lt (ck_ (kz BK124.out)) : gb124 ≠ gb125)); have NB125_124 := Aside0.mk ((by rw [hg]; exact Nat.ne_of_gt (ck_ (kz BK124.out)) : gb125 ≠ gb124)); replace BK124 := Aside0.mk (bb_ (kz BK124.out) hb); clear hb hbox hg; have hnb67 := NB123_124.out; have hnc67 := NB124_123.out; have hnb68 := NB123_125.out; have hnc68 := NB125_123.out; obtain ⟨hcz69_0, hcz69_1, hcz69_2⟩ := cz3_ BK123.out; obtain ⟨hfz69_0, hfz69_1, hfz69_2⟩ := fz3_ BK123.out; have hnb70 := NB124_125.out; have hnc70 := NB125_124.out; obtain ⟨hcz71_0, hcz71_1, hcz71_2⟩ := cz3_ BK124.out; obtain ⟨hfz71_0, hfz71_1, hfz71_2⟩ := fz3_ BK124.out; obtain ⟨hcz72_0, hcz72_1, hcz72_2⟩ := cz3_ BK125.out; obtain ⟨hfz72_0, hfz72_1, hfz72_2⟩ := fz3_ BK125.out))
       go_roundg k2
       case measure => have := HJ3.out; have := HK2.out; omega
       case rel => exact ⟨(x8_2), (wrap64 (x34_2 + 1)), (by first | rfl | (simp; done) | (simp [*]; done)), H', ⟨by have := HJ3.out; have := HK2.out; omega⟩, ⟨vz (Kd.aJ_ (Kd.V_far (p := ⟨gb125, 2, none⟩) (Kd.V_far (p := ⟨gb125, 1, none⟩) (Kd.V_far (p := ⟨gb125, 0, none⟩) (Kd.V_far (p := ⟨gb124, 2, none⟩) (Kd.V_far (p := ⟨gb124, 1, none⟩) (Kd.V_far (p := ⟨gb124, 0, none⟩) (Kd.V_far (p := ⟨gb123, 2, none⟩) (Kd.V_far (p := ⟨gb123, 1, none⟩) (Kd.V_far (p := ⟨gb123, 0, none⟩) (Kd.aJ_ (Kd.aJ_ (Kd.aJ_ HO_0.out (fun k_ hk => (⟨hk, hk.1.1.2⟩ : _ ∧ k_ ≠ gb123))) (fun k_ hk => (⟨hk, hk.1.1.2⟩ : _ ∧ k_ ≠ gb124))) (fun k_ hk => (⟨hk, hk.1.1.2⟩ : _ ∧ k_ ≠ gb125))) (fun _ hk => hk.1.1.2) (.string t114)) (fun _ hk => hk.1.1.2) (.int .i64 t115)) (fun _ hk => hk.1.1.2) (.int .i64 t116)) (fun _ hk => hk.1.2) (.string t117)) (fun _ hk => hk.1.2) (.int .i64 t118)) (fun _ hk => hk.1.2) (.int .i64 t119)) (fun _ hk => hk.2) (.string t120)) (fun _ hk => hk.2) (.int .i64 t121)) (fun _ hk => hk.2) (.int .i64 t122)) (fun _ hk => ⟨hk.1.1.1.1.1.1.1, ⟨hk.1.1.1.1.1.1.2.1, hk.1.1.1.1.1.1.2.2⟩⟩))⟩, ⟨vz (Kd.aJ_ (Kd.V_far (p := ⟨gb125, 2, none⟩) (Kd.V_far (p := ⟨gb125, 1, none⟩) (Kd.V_far (p := ⟨gb125, 0, none⟩) (Kd.V_far (p := ⟨gb124, 2, none⟩) (Kd.V_far (p := ⟨gb124, 1, none⟩) (Kd.V_far (p := ⟨gb124, 0, none⟩) (Kd.V_far (p := ⟨gb123, 2, none⟩) (Kd.V_far (p := ⟨gb123, 1, none⟩) (Kd.V_far (p := ⟨gb123, 0, none⟩) (Kd.aJ_ (Kd.aJ_ (Kd.aJ_ HO_1.out (fun k_ hk => (⟨hk, hk.1.1.2⟩ : _ ∧ k_ ≠ gb123))) (fun k_ hk => (⟨hk, hk.1.1.2⟩ : _ ∧ k_ ≠ gb124))) (fun k_ hk => (⟨hk, hk.1.1.2⟩ : _ ∧ k_ ≠ gb125))) (fun _ hk => hk.1.1.2) (.string t114)) (fun _ hk => hk.1.1.2) (.int .i64 t115)) (fun _ hk => hk.1.1.2) (.int .i64 t116)) (fun _ hk => hk.1.2) (.string t117)) (fun _ hk => hk.1.2) (.int .i64 t118)) (fun _ hk => hk.1.2) (.int .i64 t119)) (fun _ hk => hk.2) (.string t120)) (fun _ hk => hk.2) (.int .i64 t121)) (fun _ hk => hk.2) (.int .i64 t122)) (fun _ hk => ⟨hk.1.1.1.1.1.1.1, ⟨hk.1.1.1.1.1.1.2.1, hk.1.1.1.1.1.1.2.2⟩⟩))⟩, ⟨vz (Kd.aJ_ (Kd.V_far (p := ⟨gb125, 2, none⟩) (Kd.V_far (p := ⟨gb125, 1, none⟩) (Kd.V_far (p := ⟨gb125, 0, none⟩) (Kd.V_far (p := ⟨gb124, 2, none⟩) (Kd.V_far (p := ⟨gb124, 1, none⟩) (Kd.V_far (p := ⟨gb124, 0, none⟩) (Kd.V_far (p := ⟨gb123, 2, none⟩) (Kd.V_far (p := ⟨gb123, 1, none⟩) (Kd.V_far (p := ⟨gb123, 0, none⟩) (Kd.aJ_ (Kd.aJ_ (Kd.aJ_ HO_2.out (fun k_ hk => (⟨hk, hk.1.1.2⟩ : _ ∧ k_ ≠ gb123))) (fun k_ hk => (⟨hk, hk.1.1.2⟩ : _ ∧ k_ ≠ gb124))) (fun k_ hk => (⟨hk, hk.1.1.2⟩ : _ ∧ k_ ≠ gb125))) (fun _ hk => hk.1.1.2) (.string t114)) (fun _ hk => hk.1.1.2) (.int .i64 t115)) (fun _ hk => hk.1.1.2) (.int .i64 t116)) (fun _ hk => hk.1.2) (.string t117)) (fun _ hk => hk.1.2) (.int .i64 t118)) (fun _ hk => hk.1.2) (.int .i64 t119)) (fun _ hk => hk.2) (.string t120)) (fun _ hk => hk.2) (.int .i64 t121)) (fun _ hk => hk.2) (.int .i64 t122)) (fun _ hk => ⟨hk.1.1.1.1.1.1.1, ⟨hk.1.1.1.1.1.1.2.1, hk.1.1.1.1.1.1.2.2⟩⟩))⟩, ⟨rz (Kd.aB_ (Kd.R_far (p := ⟨gb125, 2, none⟩) (Kd.R_far (p := ⟨gb125, 1, none⟩) (Kd.R_far (p := ⟨gb125, 0, none⟩) (Kd.R_far (p := ⟨gb124, 2, none⟩) (Kd.R_far (p := ⟨gb124, 1, none⟩) (Kd.R_far (p := ⟨gb124, 0, none⟩) (Kd.R_far (p := ⟨gb123, 2, none⟩) (Kd.R_far (p := ⟨gb123, 1, none⟩) (Kd.R_far (p := ⟨gb123, 0, none⟩) (Kd.bs_ (Kd.bs_ (Kd.bs_ HO_8.out BK123.out (by decide)) BK124.out (by decide)) BK125.out (by decide)) (fun _ hk => hk.1.1.2) (.string t114)) (fun _ hk => hk.1.1.2) (.int .i64 t115)) (fun _ hk => hk.1.1.2) (.int .i64 t116)) (fun _ hk => hk.1.2) (.string t117)) (fun _ hk => hk.1.2) (.int .i64 t118)) (fun _ hk => hk.1.2) (.int .i64 t119)) (fun _ hk => hk.2) (.string t120)) (fun _ hk => hk.2) (.int .i64 t121)) (fun _ hk => hk.2) (.int .i64 t122)) (fun _ hk => ⟨hk.1.1.1.1, hk.1.1.1.2⟩))⟩, ⟨rz (Kd.aB_ (Kd.R_far (p := ⟨gb125, 2, none⟩) (Kd.R_far (p := ⟨gb125, 1, none⟩) (Kd.R_far (p := ⟨gb125, 0, none⟩) (Kd.R_far (p := ⟨gb124, 2, none⟩) (Kd.R_far (p := ⟨gb124, 1, none⟩) (Kd.R_far (p := ⟨gb124, 0, none⟩) (Kd.R_far (p := ⟨gb123, 2, none⟩) (Kd.R_far (p := ⟨gb123, 1, none⟩) (Kd.R_far (p := ⟨gb123, 0, none⟩) (Kd.bs_ (Kd.bs_ (Kd.bs_ HO_32.out BK123.out (by decide)) BK124.out (by decide)) BK125.out (by decide)) (fun _ hk => hk.1.1.2) (.string t114)) (fun _ hk => hk.1.1.2) (.int .i64 t115)) (fun _ hk => hk.1.1.2) (.int .i64 t116)) (fun _ hk => hk.1.2) (.string t117)) (fun _ hk => hk.1.2) (.int .i64 t118)) (fun _ hk => hk.1.2) (.int .i64 t119)) (fun _ hk => hk.2) (.string t120)) (fun _ hk => hk.2) (.int .i64 t121)) (fun _ hk => hk.2) (.int .i64 t122)) (fun _ hk => ⟨hk.1.1.1.1, hk.1.1.1.2⟩))⟩, ⟨bq⟩⟩
      rw [if_pos c31] at H
      have c31b0 : (!(t117.toList == t120.toList) || (!(t118 == t121) || (!(t119 == t122)))) = true := c31
      clear c31
      by_cases c32 : (!(t117.toList == t114.toList) || (!(t118 == t115) || (!(t119 == t116)))) = true
      rotate_left
      ·rw [if_neg c32] at H
       have c32b0 : (!(t117.toList == t114.toList) || (!(t118 == t115) || (!(t119 == t116)))) = false := by simpa using c32
       clear c32
       have H' := Aside0.mk H
       clear H
       have p113 : 0 ≤ (x34_2 : Int) := of_decide_eq_true (by assumption)
       have q113 : x34_2 < (t110.length : Int) := of_decide_eq_true (by assumption)
       obtain ⟨ad113, e113, hx113_0⟩ := Kd.cz_ (Kd.as_ HO_32.out).2.2 x34_2 p113 q113
       cases e113
       replace p113 := eq_true p113
       replace q113 := eq_true q113
       go_wp2_with (first | ((with_reducible refine ah_ (f := 41) rfl ?_); refine aN_ (some 40) rfl rfl Try.func41 (by kernel_rfl) rfl #[.slice A0 l0.length c0, .string (rdOf ByteArray.empty t110 x34_2)] rfl (by first | rfl | (simp only [lma_, lmc_, lmn_]; first | done | rfl)) ?_; (with_reducible refine (bF_.calls k2 _ _ l0 (rdOf ByteArray.empty t110 x34_2) t114 t115 t116 _ ?side1 ?side2 A28.out).mono ?_); (case side1 => exact cz (Kd.bz_ HO_0.out).2.2); (case side2 => exact (Kd.bz_ HO_0.out).2.1); rintro e w49 ⟨rfl, hb⟩; refine ⟨_, rfl, ?_⟩; replace HO_0 := Aside0.mk (Kd.aU_ (vz HO_0.out) hb); replace HO_1 := Aside0.mk (Kd.aU_ (vz HO_1.out) hb); replace HO_2 := Aside0.mk (Kd.aU_ (vz HO_2.out) hb); replace HO_8 := Aside0.mk (Kd.aT_ (rz HO_8.out) hb); replace HO_32 := Aside0.mk (Kd.aT_ (rz HO_32.out) hb); replace HB := Aside0.mk (ac_ (bz HB.out) hb); (try clear hb)) | ((with_reducible refine ah_ (f := 41) rfl ?_); refine aN_ (some 43) rfl rfl Try.func41 (by kernel_rfl) rfl #[.slice A1 l1.length c1, .string (rdOf ByteArray.empty t110 x34_2)] rfl (by first | rfl | (simp only [lma_, lmc_, lmn_]; first | done | rfl)) ?_; (with_reducible refine (bF_.calls k2 _ _ l1 (rdOf ByteArray.empty t110 x34_2) t117 t118 t119 _ ?side1 ?side2 A29.out).mono ?_); (case side1 => exact cz (Kd.bz_ HO_1.out).2.2); (case side2 => exact (Kd.bz_ HO_1.out).2.1); rintro e w50 ⟨rfl, hb⟩; refine ⟨_, rfl, ?_⟩; replace HO_0 := Aside0.mk (Kd.aU_ (vz HO_0.out) hb); replace HO_1 := Aside0.mk (Kd.aU_ (vz HO_1.out) hb); replace HO_2 := Aside0.mk (Kd.aU_ (vz HO_2.out) hb); replace HO_8 := Aside0.mk (Kd.aT_ (rz HO_8.out) hb); replace HO_32 := Aside0.mk (Kd.aT_ (rz HO_32.out) hb); replace HB := Aside0.mk (ac_ (bz HB.out) hb); (try clear hb)) | ((with_reducible refine ah_ (f := 41) rfl ?_); refine aN_ (some 46) rfl rfl Try.func41 (by kernel_rfl) rfl #[.slice A2 l2.length c2, .string (rdOf ByteArray.empty t110 x34_2)] rfl (by first | rfl | (simp only [lma_, lmc_, lmn_]; first | done | rfl)) ?_; (with_reducible refine (bF_.calls k2 _ _ l2 (rdOf ByteArray.empty t110 x34_2) t120 t121 t122 _ ?side1 ?side2 A30.out).mono ?_); (case side1 => exact cz (Kd.bz_ HO_2.out).2.2); (case side2 => exact (Kd.bz_ HO_2.out).2.1); rintro e w51 ⟨rfl, hb⟩; refine ⟨_, rfl, ?_⟩; replace HO_0 := Aside0.mk (Kd.aU_ (vz HO_0.out) hb); replace HO_1 := Aside0.mk (Kd.aU_ (vz HO_1.out) hb); replace HO_2 := Aside0.mk (Kd.aU_ (vz HO_2.out) hb); replace HO_8 := Aside0.mk (Kd.aT_ (rz HO_8.out) hb); replace HO_32 := Aside0.mk (Kd.aT_ (rz HO_32.out) hb); replace HB := Aside0.mk (ac_ (bz HB.out) hb); (try clear hb)) | ((with_reducible refine aH_ (N := 11) rfl ?_); refine by_ ?hg (N := 11) ?hd (cs := #[.string (⟨#[]⟩ : ByteArray), .int .i64 0, .int .i64 0]) (t := 61) ?hr ?_; (case hd => rfl); (case hg => rfl); (case hr => (go_simp; try rfl)); intro gb123 hg w52 hbox hb; replace HO_0 := Aside0.mk (Kd.aU_ (Kd.bJ_ (vz HO_0.out) gb123 (Nat.le_of_eq hg.symm)) hb); replace HO_1 := Aside0.mk (Kd.aU_ (Kd.bJ_ (vz HO_1.out) gb123 (Nat.le_of_eq hg.symm)) hb); replace HO_2 := Aside0.mk (Kd.aU_ (Kd.bJ_ (vz HO_2.out) gb123 (Nat.le_of_eq hg.symm)) hb); replace HO_8 := Aside0.mk (Kd.aT_ (rz HO_8.out) hb); replace HO_32 := Aside0.mk (Kd.aT_ (rz HO_32.out) hb); have BK123 := Aside0.mk (hbox); have GW123 := Aside0.mk ((by rw [hg]; exact (ae_ (bz HB.out)) : w.heap.size ≤ gb123)); have GE123 := GW123; replace HB := Aside0.mk (ac_ (bz HB.out) hb); clear hb hbox hg) | ((with_reducible refine aH_ (N := 12) rfl ?_); refine by_ ?hg (N := 12) ?hd (cs := #[.string (⟨#[]⟩ : ByteArray), .int .i64 0, .int .i64 0]) (t := 61) ?hr ?_; (case hd => rfl); (case hg => rfl); (case hr => (go_simp; try rfl)); intro gb124 hg w53 hbox hb; replace HO_0 := Aside0.mk (Kd.aU_ (Kd.bJ_ (vz HO_0.out) gb124 (Nat.le_of_eq hg.symm)) hb); replace HO_1 := Aside0.mk (Kd.aU_ (Kd.bJ_ (vz HO_1.out) gb124 (Nat.le_of_eq hg.symm)) hb); replace HO_2 := Aside0.mk (Kd.aU_ (Kd.bJ_ (vz HO_2.out) gb124 (Nat.le_of_eq hg.symm)) hb); replace HO_8 := Aside0.mk (Kd.aT_ (rz HO_8.out) hb); replace HO_32 := Aside0.mk (Kd.aT_ (rz HO_32.out) hb); have BK124 := Aside0.mk (hbox); have GW124 := Aside0.mk ((by rw [hg]; exact (ae_ (bq)) : w.heap.size ≤ gb124)); have GE124 := GW124; replace HB := Aside0.mk (ac_ (bq) hb); have NB123_124 := Aside0.mk ((by rw [hg]; exact Nat.ne_of_lt (ck_ (kz BK123.out)) : gb123 ≠ gb124)); have NB124_123 := Aside0.mk ((by rw [hg]; exact Nat.ne_of_gt (ck_ (kz BK123.out)) : gb124 ≠ gb123)); replace BK123 := Aside0.mk (bb_ (kz BK123.out) hb); clear hb hbox hg) | ((with_reducible refine aH_ (N := 13) rfl ?_); refine by_ ?hg (N := 13) ?hd (cs := #[.string (⟨#[]⟩ : ByteArray), .int .i64 0, .int .i64 0]) (t := 61) ?hr ?_; (case hd => rfl); (case hg => rfl); (case hr => (go_simp; try rfl)); intro gb125 hg w54 hbox hb; replace HO_0 := Aside0.mk (Kd.aU_ (Kd.bJ_ (vz HO_0.out) gb125 (Nat.le_of_eq hg.symm)) hb); replace HO_1 := Aside0.mk (Kd.aU_ (Kd.bJ_ (vz HO_1.out) gb125 (Nat.le_of_eq hg.symm)) hb); replace HO_2 := Aside0.mk (Kd.aU_ (Kd.bJ_ (vz HO_2.out) gb125 (Nat.le_of_eq hg.symm)) hb); replace HO_8 := Aside0.mk (Kd.aT_ (rz HO_8.out) hb); replace HO_32 := Aside0.mk (Kd.aT_ (rz HO_32.out) hb); have BK125 := Aside0.mk (hbox); have GW125 := Aside0.mk ((by rw [hg]; exact (ae_ (bq)) : w.heap.size ≤ gb125)); have GE125 := GW125; replace HB := Aside0.mk (ac_ (bq) hb); have NB123_125 := Aside0.mk ((by rw [hg]; exact Nat.ne_of_lt (ck_ (kz BK123.out)) : gb123 ≠ gb125)); have NB125_123 := Aside0.mk ((by rw [hg]; exact Nat.ne_of_gt (ck_ (kz BK123.out)) : gb125 ≠ gb123)); replace BK123 := Aside0.mk (bb_ (kz BK123.out) hb); have NB124_125 := Aside0.mk ((by rw [hg]; exact Nat.ne_of_lt (ck_ (kz BK124.out)) : gb124 ≠ gb125)); have NB125_124 := Aside0.mk ((by rw [hg]; exact Nat.ne_of_gt (ck_ (kz BK124.out)) : gb125 ≠ gb124)); replace BK124 := Aside0.mk (bb_ (kz BK124.out) hb); clear hb hbox hg; have hnb55 := NB123_124.out; have hnc55 := NB124_123.out; have hnb56 := NB123_125.out; have hnc56 := NB125_123.out; obtain ⟨hcz57_0, hcz57_1, hcz57_2⟩ := cz3_ BK123.out; obtain ⟨hfz57_0, hfz57_1, hfz57_2⟩ := fz3_ BK123.out; have hnb58 := NB124_125.out; have hnc58 := NB125_124.out; obtain ⟨hcz59_0, hcz59_1, hcz59_2⟩ := cz3_ BK124.out; obtain ⟨hfz59_0, hfz59_1, hfz59_2⟩ := fz3_ BK124.out; obtain ⟨hcz60_0, hcz60_1, hcz60_2⟩ := cz3_ BK125.out; obtain ⟨hfz60_0, hfz60_1, hfz60_2⟩ := fz3_ BK125.out))
       go_roundg k2
       case measure => have := HJ3.out; have := HK2.out; omega
       case rel => exact ⟨(x8_2), (wrap64 (x34_2 + 1)), (by first | rfl | (simp; done) | (simp [*]; done)), H', ⟨by have := HJ3.out; have := HK2.out; omega⟩, ⟨vz (Kd.aJ_ (Kd.V_far (p := ⟨gb125, 2, none⟩) (Kd.V_far (p := ⟨gb125, 1, none⟩) (Kd.V_far (p := ⟨gb125, 0, none⟩) (Kd.V_far (p := ⟨gb124, 2, none⟩) (Kd.V_far (p := ⟨gb124, 1, none⟩) (Kd.V_far (p := ⟨gb124, 0, none⟩) (Kd.V_far (p := ⟨gb123, 2, none⟩) (Kd.V_far (p := ⟨gb123, 1, none⟩) (Kd.V_far (p := ⟨gb123, 0, none⟩) (Kd.aJ_ (Kd.aJ_ (Kd.aJ_ HO_0.out (fun k_ hk => (⟨hk, hk.1.1.2⟩ : _ ∧ k_ ≠ gb123))) (fun k_ hk => (⟨hk, hk.1.1.2⟩ : _ ∧ k_ ≠ gb124))) (fun k_ hk => (⟨hk, hk.1.1.2⟩ : _ ∧ k_ ≠ gb125))) (fun _ hk => hk.1.1.2) (.string t114)) (fun _ hk => hk.1.1.2) (.int .i64 t115)) (fun _ hk => hk.1.1.2) (.int .i64 t116)) (fun _ hk => hk.1.2) (.string t117)) (fun _ hk => hk.1.2) (.int .i64 t118)) (fun _ hk => hk.1.2) (.int .i64 t119)) (fun _ hk => hk.2) (.string t120)) (fun _ hk => hk.2) (.int .i64 t121)) (fun _ hk => hk.2) (.int .i64 t122)) (fun _ hk => ⟨hk.1.1.1.1.1.1.1, ⟨hk.1.1.1.1.1.1.2.1, hk.1.1.1.1.1.1.2.2⟩⟩))⟩, ⟨vz (Kd.aJ_ (Kd.V_far (p := ⟨gb125, 2, none⟩) (Kd.V_far (p := ⟨gb125, 1, none⟩) (Kd.V_far (p := ⟨gb125, 0, none⟩) (Kd.V_far (p := ⟨gb124, 2, none⟩) (Kd.V_far (p := ⟨gb124, 1, none⟩) (Kd.V_far (p := ⟨gb124, 0, none⟩) (Kd.V_far (p := ⟨gb123, 2, none⟩) (Kd.V_far (p := ⟨gb123, 1, none⟩) (Kd.V_far (p := ⟨gb123, 0, none⟩) (Kd.aJ_ (Kd.aJ_ (Kd.aJ_ HO_1.out (fun k_ hk => (⟨hk, hk.1.1.2⟩ : _ ∧ k_ ≠ gb123))) (fun k_ hk => (⟨hk, hk.1.1.2⟩ : _ ∧ k_ ≠ gb124))) (fun k_ hk => (⟨hk, hk.1.1.2⟩ : _ ∧ k_ ≠ gb125))) (fun _ hk => hk.1.1.2) (.string t114)) (fun _ hk => hk.1.1.2) (.int .i64 t115)) (fun _ hk => hk.1.1.2) (.int .i64 t116)) (fun _ hk => hk.1.2) (.string t117)) (fun _ hk => hk.1.2) (.int .i64 t118)) (fun _ hk => hk.1.2) (.int .i64 t119)) (fun _ hk => hk.2) (.string t120)) (fun _ hk => hk.2) (.int .i64 t121)) (fun _ hk => hk.2) (.int .i64 t122)) (fun _ hk => ⟨hk.1.1.1.1.1.1.1, ⟨hk.1.1.1.1.1.1.2.1, hk.1.1.1.1.1.1.2.2⟩⟩))⟩, ⟨vz (Kd.aJ_ (Kd.V_far (p := ⟨gb125, 2, none⟩) (Kd.V_far (p := ⟨gb125, 1, none⟩) (Kd.V_far (p := ⟨gb125, 0, none⟩) (Kd.V_far (p := ⟨gb124, 2, none⟩) (Kd.V_far (p := ⟨gb124, 1, none⟩) (Kd.V_far (p := ⟨gb124, 0, none⟩) (Kd.V_far (p := ⟨gb123, 2, none⟩) (Kd.V_far (p := ⟨gb123, 1, none⟩) (Kd.V_far (p := ⟨gb123, 0, none⟩) (Kd.aJ_ (Kd.aJ_ (Kd.aJ_ HO_2.out (fun k_ hk => (⟨hk, hk.1.1.2⟩ : _ ∧ k_ ≠ gb123))) (fun k_ hk => (⟨hk, hk.1.1.2⟩ : _ ∧ k_ ≠ gb124))) (fun k_ hk => (⟨hk, hk.1.1.2⟩ : _ ∧ k_ ≠ gb125))) (fun _ hk => hk.1.1.2) (.string t114)) (fun _ hk => hk.1.1.2) (.int .i64 t115)) (fun _ hk => hk.1.1.2) (.int .i64 t116)) (fun _ hk => hk.1.2) (.string t117)) (fun _ hk => hk.1.2) (.int .i64 t118)) (fun _ hk => hk.1.2) (.int .i64 t119)) (fun _ hk => hk.2) (.string t120)) (fun _ hk => hk.2) (.int .i64 t121)) (fun _ hk => hk.2) (.int .i64 t122)) (fun _ hk => ⟨hk.1.1.1.1.1.1.1, ⟨hk.1.1.1.1.1.1.2.1, hk.1.1.1.1.1.1.2.2⟩⟩))⟩, ⟨rz (Kd.aB_ (Kd.R_far (p := ⟨gb125, 2, none⟩) (Kd.R_far (p := ⟨gb125, 1, none⟩) (Kd.R_far (p := ⟨gb125, 0, none⟩) (Kd.R_far (p := ⟨gb124, 2, none⟩) (Kd.R_far (p := ⟨gb124, 1, none⟩) (Kd.R_far (p := ⟨gb124, 0, none⟩) (Kd.R_far (p := ⟨gb123, 2, none⟩) (Kd.R_far (p := ⟨gb123, 1, none⟩) (Kd.R_far (p := ⟨gb123, 0, none⟩) (Kd.bs_ (Kd.bs_ (Kd.bs_ HO_8.out BK123.out (by decide)) BK124.out (by decide)) BK125.out (by decide)) (fun _ hk => hk.1.1.2) (.string t114)) (fun _ hk => hk.1.1.2) (.int .i64 t115)) (fun _ hk => hk.1.1.2) (.int .i64 t116)) (fun _ hk => hk.1.2) (.string t117)) (fun _ hk => hk.1.2) (.int .i64 t118)) (fun _ hk => hk.1.2) (.int .i64 t119)) (fun _ hk => hk.2) (.string t120)) (fun _ hk => hk.2) (.int .i64 t121)) (fun _ hk => hk.2) (.int .i64 t122)) (fun _ hk => ⟨hk.1.1.1.1, hk.1.1.1.2⟩))⟩, ⟨rz (Kd.aB_ (Kd.R_far (p := ⟨gb125, 2, none⟩) (Kd.R_far (p := ⟨gb125, 1, none⟩) (Kd.R_far (p := ⟨gb125, 0, none⟩) (Kd.R_far (p := ⟨gb124, 2, none⟩) (Kd.R_far (p := ⟨gb124, 1, none⟩) (Kd.R_far (p := ⟨gb124, 0, none⟩) (Kd.R_far (p := ⟨gb123, 2, none⟩) (Kd.R_far (p := ⟨gb123, 1, none⟩) (Kd.R_far (p := ⟨gb123, 0, none⟩) (Kd.bs_ (Kd.bs_ (Kd.bs_ HO_32.out BK123.out (by decide)) BK124.out (by decide)) BK125.out (by decide)) (fun _ hk => hk.1.1.2) (.string t114)) (fun _ hk => hk.1.1.2) (.int .i64 t115)) (fun _ hk => hk.1.1.2) (.int .i64 t116)) (fun _ hk => hk.1.2) (.string t117)) (fun _ hk => hk.1.2) (.int .i64 t118)) (fun _ hk => hk.1.2) (.int .i64 t119)) (fun _ hk => hk.2) (.string t120)) (fun _ hk => hk.2) (.int .i64 t121)) (fun _ hk => hk.2) (.int .i64 t122)) (fun _ hk => ⟨hk.1.1.1.1, hk.1.1.1.2⟩))⟩, ⟨bq⟩⟩
      rw [if_pos c32] at H
      have c32b0 : (!(t117.toList == t114.toList) || (!(t118 == t115) || (!(t119 == t116)))) = true := c32
      clear c32
      have HC33 := Aside0.mk H
      clear H
      have p113 : 0 ≤ (x34_2 : Int) := of_decide_eq_true (by assumption)
      have q113 : x34_2 < (t110.length : Int) := of_decide_eq_true (by assumption)
      obtain ⟨ad113, e113, hx113_0⟩ := Kd.cz_ (Kd.as_ HO_32.out).2.2 x34_2 p113 q113
      cases e113
      replace p113 := eq_true p113
      replace q113 := eq_true q113
      go_upto_if 59 with (first | ((with_reducible refine ah_ (f := 41) rfl ?_); refine aN_ (some 40) rfl rfl Try.func41 (by kernel_rfl) rfl #[.slice A0 l0.length c0, .string (rdOf ByteArray.empty t110 x34_2)] rfl (by first | rfl | (simp only [lma_, lmc_, lmn_]; first | done | rfl)) ?_; (with_reducible refine (bF_.calls k2 _ _ l0 (rdOf ByteArray.empty t110 x34_2) t114 t115 t116 _ ?side1 ?side2 A28.out).mono ?_); (case side1 => exact cz (Kd.bz_ HO_0.out).2.2); (case side2 => exact (Kd.bz_ HO_0.out).2.1); rintro e w34 ⟨rfl, hb⟩; refine ⟨_, rfl, ?_⟩; replace HO_0 := Aside0.mk (Kd.aU_ (vz HO_0.out) hb); replace HO_1 := Aside0.mk (Kd.aU_ (vz HO_1.out) hb); replace HO_2 := Aside0.mk (Kd.aU_ (vz HO_2.out) hb); replace HO_8 := Aside0.mk (Kd.aT_ (rz HO_8.out) hb); replace HO_32 := Aside0.mk (Kd.aT_ (rz HO_32.out) hb); replace HB := Aside0.mk (ac_ (bz HB.out) hb); (try clear hb)) | ((with_reducible refine ah_ (f := 41) rfl ?_); refine aN_ (some 43) rfl rfl Try.func41 (by kernel_rfl) rfl #[.slice A1 l1.length c1, .string (rdOf ByteArray.empty t110 x34_2)] rfl (by first | rfl | (simp only [lma_, lmc_, lmn_]; first | done | rfl)) ?_; (with_reducible refine (bF_.calls k2 _ _ l1 (rdOf ByteArray.empty t110 x34_2) t117 t118 t119 _ ?side1 ?side2 A29.out).mono ?_); (case side1 => exact cz (Kd.bz_ HO_1.out).2.2); (case side2 => exact (Kd.bz_ HO_1.out).2.1); rintro e w35 ⟨rfl, hb⟩; refine ⟨_, rfl, ?_⟩; replace HO_0 := Aside0.mk (Kd.aU_ (vz HO_0.out) hb); replace HO_1 := Aside0.mk (Kd.aU_ (vz HO_1.out) hb); replace HO_2 := Aside0.mk (Kd.aU_ (vz HO_2.out) hb); replace HO_8 := Aside0.mk (Kd.aT_ (rz HO_8.out) hb); replace HO_32 := Aside0.mk (Kd.aT_ (rz HO_32.out) hb); replace HB := Aside0.mk (ac_ (bz HB.out) hb); (try clear hb)) | ((with_reducible refine ah_ (f := 41) rfl ?_); refine aN_ (some 46) rfl rfl Try.func41 (by kernel_rfl) rfl #[.slice A2 l2.length c2, .string (rdOf ByteArray.empty t110 x34_2)] rfl (by first | rfl | (simp only [lma_, lmc_, lmn_]; first | done | rfl)) ?_; (with_reducible refine (bF_.calls k2 _ _ l2 (rdOf ByteArray.empty t110 x34_2) t120 t121 t122 _ ?side1 ?side2 A30.out).mono ?_); (case side1 => exact cz (Kd.bz_ HO_2.out).2.2); (case side2 => exact (Kd.bz_ HO_2.out).2.1); rintro e w36 ⟨rfl, hb⟩; refine ⟨_, rfl, ?_⟩; replace HO_0 := Aside0.mk (Kd.aU_ (vz HO_0.out) hb); replace HO_1 := Aside0.mk (Kd.aU_ (vz HO_1.out) hb); replace HO_2 := Aside0.mk (Kd.aU_ (vz HO_2.out) hb); replace HO_8 := Aside0.mk (Kd.aT_ (rz HO_8.out) hb); replace HO_32 := Aside0.mk (Kd.aT_ (rz HO_32.out) hb); replace HB := Aside0.mk (ac_ (bz HB.out) hb); (try clear hb)) | ((with_reducible refine aH_ (N := 11) rfl ?_); refine by_ ?hg (N := 11) ?hd (cs := #[.string (⟨#[]⟩ : ByteArray), .int .i64 0, .int .i64 0]) (t := 61) ?hr ?_; (case hd => rfl); (case hg => rfl); (case hr => (go_simp; try rfl)); intro gb123 hg w37 hbox hb; replace HO_0 := Aside0.mk (Kd.aU_ (Kd.bJ_ (vz HO_0.out) gb123 (Nat.le_of_eq hg.symm)) hb); replace HO_1 := Aside0.mk (Kd.aU_ (Kd.bJ_ (vz HO_1.out) gb123 (Nat.le_of_eq hg.symm)) hb); replace HO_2 := Aside0.mk (Kd.aU_ (Kd.bJ_ (vz HO_2.out) gb123 (Nat.le_of_eq hg.symm)) hb); replace HO_8 := Aside0.mk (Kd.aT_ (rz HO_8.out) hb); replace HO_32 := Aside0.mk (Kd.aT_ (rz HO_32.out) hb); have BK123 := Aside0.mk (hbox); have GW123 := Aside0.mk ((by rw [hg]; exact (ae_ (bz HB.out)) : w.heap.size ≤ gb123)); have GE123 := GW123; replace HB := Aside0.mk (ac_ (bz HB.out) hb); clear hb hbox hg) | ((with_reducible refine aH_ (N := 12) rfl ?_); refine by_ ?hg (N := 12) ?hd (cs := #[.string (⟨#[]⟩ : ByteArray), .int .i64 0, .int .i64 0]) (t := 61) ?hr ?_; (case hd => rfl); (case hg => rfl); (case hr => (go_simp; try rfl)); intro gb124 hg w38 hbox hb; replace HO_0 := Aside0.mk (Kd.aU_ (Kd.bJ_ (vz HO_0.out) gb124 (Nat.le_of_eq hg.symm)) hb); replace HO_1 := Aside0.mk (Kd.aU_ (Kd.bJ_ (vz HO_1.out) gb124 (Nat.le_of_eq hg.symm)) hb); replace HO_2 := Aside0.mk (Kd.aU_ (Kd.bJ_ (vz HO_2.out) gb124 (Nat.le_of_eq hg.symm)) hb); replace HO_8 := Aside0.mk (Kd.aT_ (rz HO_8.out) hb); replace HO_32 := Aside0.mk (Kd.aT_ (rz HO_32.out) hb); have BK124 := Aside0.mk (hbox); have GW124 := Aside0.mk ((by rw [hg]; exact (ae_ (bq)) : w.heap.size ≤ gb124)); have GE124 := GW124; replace HB := Aside0.mk (ac_ (bq) hb); have NB123_124 := Aside0.mk ((by rw [hg]; exact Nat.ne_of_lt (ck_ (kz BK123.out)) : gb123 ≠ gb124)); have NB124_123 := Aside0.mk ((by rw [hg]; exact Nat.ne_of_gt (ck_ (kz BK123.out)) : gb124 ≠ gb123)); replace BK123 := Aside0.mk (bb_ (kz BK123.out) hb); clear hb hbox hg) | ((with_reducible refine aH_ (N := 13) rfl ?_); refine by_ ?hg (N := 13) ?hd (cs := #[.string (⟨#[]⟩ : ByteArray), .int .i64 0, .int .i64 0]) (t := 61) ?hr ?_; (case hd => rfl); (case hg => rfl); (case hr => (go_simp; try rfl)); intro gb125 hg w39 hbox hb; replace HO_0 := Aside0.mk (Kd.aU_ (Kd.bJ_ (vz HO_0.out) gb125 (Nat.le_of_eq hg.symm)) hb); replace HO_1 := Aside0.mk (Kd.aU_ (Kd.bJ_ (vz HO_1.out) gb125 (Nat.le_of_eq hg.symm)) hb); replace HO_2 := Aside0.mk (Kd.aU_ (Kd.bJ_ (vz HO_2.out) gb125 (Nat.le_of_eq hg.symm)) hb); replace HO_8 := Aside0.mk (Kd.aT_ (rz HO_8.out) hb); replace HO_32 := Aside0.mk (Kd.aT_ (rz HO_32.out) hb); have BK125 := Aside0.mk (hbox); have GW125 := Aside0.mk ((by rw [hg]; exact (ae_ (bq)) : w.heap.size ≤ gb125)); have GE125 := GW125; replace HB := Aside0.mk (ac_ (bq) hb); have NB123_125 := Aside0.mk ((by rw [hg]; exact Nat.ne_of_lt (ck_ (kz BK123.out)) : gb123 ≠ gb125)); have NB125_123 := Aside0.mk ((by rw [hg]; exact Nat.ne_of_gt (ck_ (kz BK123.out)) : gb125 ≠ gb123)); replace BK123 := Aside0.mk (bb_ (kz BK123.out) hb); have NB124_125 := Aside0.mk ((by rw [hg]; exact Nat.ne_of_lt (ck_ (kz BK124.out)) : gb124 ≠ gb125)); have NB125_124 := Aside0.mk ((by rw [hg]; exact Nat.ne_of_gt (ck_ (kz BK124.out)) : gb125 ≠ gb124)); replace BK124 := Aside0.mk (bb_ (kz BK124.out) hb); clear hb hbox hg; have hnb40 := NB123_124.out; have hnc40 := NB124_123.out; have hnb41 := NB123_125.out; have hnc41 := NB125_123.out; obtain ⟨hcz42_0, hcz42_1, hcz42_2⟩ := cz3_ BK123.out; obtain ⟨hfz42_0, hfz42_1, hfz42_2⟩ := fz3_ BK123.out; have hnb43 := NB124_125.out; have hnc43 := NB125_124.out; obtain ⟨hcz44_0, hcz44_1, hcz44_2⟩ := cz3_ BK124.out; obtain ⟨hfz44_0, hfz44_1, hfz44_2⟩ := fz3_ BK124.out; obtain ⟨hcz45_0, hcz45_1, hcz45_2⟩ := cz3_ BK125.out; obtain ⟨hfz45_0, hfz45_1, hfz45_2⟩ := fz3_ BK125.out))
      (try simp only [Act.put, lsa_, ls0_, ls1_])
      have H := HC33.out
      clear HC33
      by_cases c46 : (!(t120.toList == t114.toList) || (!(t121 == t115) || (!(t122 == t116)))) = true
      rotate_left
      ·rw [if_neg c46] at H
       have c46b0 : (!(t120.toList == t114.toList) || (!(t121 == t115) || (!(t122 == t116)))) = false := by simpa using c46
       clear c46
       (first | rw [c46b0] | (simp only [i64_w, i32_w]; rw [c46b0]) | (simp only [c46b1, Bool.not_true, Bool.not_false]) | (simp only [c46b0, Bool.not_true, Bool.not_false]) | skip)
       have H' := Aside0.mk H
       clear H
       go_wp2
       go_roundg k2
       case measure => have := HJ3.out; have := HK2.out; omega
       case rel => exact ⟨(x8_2), (wrap64 (x34_2 + 1)), (by first | rfl | (simp; done) | (simp [*]; done)), H', ⟨by have := HJ3.out; have := HK2.out; omega⟩, ⟨vz (Kd.aJ_ (Kd.V_far (p := ⟨gb125, 2, none⟩) (Kd.V_far (p := ⟨gb125, 1, none⟩) (Kd.V_far (p := ⟨gb125, 0, none⟩) (Kd.V_far (p := ⟨gb124, 2, none⟩) (Kd.V_far (p := ⟨gb124, 1, none⟩) (Kd.V_far (p := ⟨gb124, 0, none⟩) (Kd.V_far (p := ⟨gb123, 2, none⟩) (Kd.V_far (p := ⟨gb123, 1, none⟩) (Kd.V_far (p := ⟨gb123, 0, none⟩) (Kd.aJ_ (Kd.aJ_ (Kd.aJ_ HO_0.out (fun k_ hk => (⟨hk, hk.1.1.2⟩ : _ ∧ k_ ≠ gb123))) (fun k_ hk => (⟨hk, hk.1.1.2⟩ : _ ∧ k_ ≠ gb124))) (fun k_ hk => (⟨hk, hk.1.1.2⟩ : _ ∧ k_ ≠ gb125))) (fun _ hk => hk.1.1.2) (.string t114)) (fun _ hk => hk.1.1.2) (.int .i64 t115)) (fun _ hk => hk.1.1.2) (.int .i64 t116)) (fun _ hk => hk.1.2) (.string t117)) (fun _ hk => hk.1.2) (.int .i64 t118)) (fun _ hk => hk.1.2) (.int .i64 t119)) (fun _ hk => hk.2) (.string t120)) (fun _ hk => hk.2) (.int .i64 t121)) (fun _ hk => hk.2) (.int .i64 t122)) (fun _ hk => ⟨hk.1.1.1.1.1.1.1, ⟨hk.1.1.1.1.1.1.2.1, hk.1.1.1.1.1.1.2.2⟩⟩))⟩, ⟨vz (Kd.aJ_ (Kd.V_far (p := ⟨gb125, 2, none⟩) (Kd.V_far (p := ⟨gb125, 1, none⟩) (Kd.V_far (p := ⟨gb125, 0, none⟩) (Kd.V_far (p := ⟨gb124, 2, none⟩) (Kd.V_far (p := ⟨gb124, 1, none⟩) (Kd.V_far (p := ⟨gb124, 0, none⟩) (Kd.V_far (p := ⟨gb123, 2, none⟩) (Kd.V_far (p := ⟨gb123, 1, none⟩) (Kd.V_far (p := ⟨gb123, 0, none⟩) (Kd.aJ_ (Kd.aJ_ (Kd.aJ_ HO_1.out (fun k_ hk => (⟨hk, hk.1.1.2⟩ : _ ∧ k_ ≠ gb123))) (fun k_ hk => (⟨hk, hk.1.1.2⟩ : _ ∧ k_ ≠ gb124))) (fun k_ hk => (⟨hk, hk.1.1.2⟩ : _ ∧ k_ ≠ gb125))) (fun _ hk => hk.1.1.2) (.string t114)) (fun _ hk => hk.1.1.2) (.int .i64 t115)) (fun _ hk => hk.1.1.2) (.int .i64 t116)) (fun _ hk => hk.1.2) (.string t117)) (fun _ hk => hk.1.2) (.int .i64 t118)) (fun _ hk => hk.1.2) (.int .i64 t119)) (fun _ hk => hk.2) (.string t120)) (fun _ hk => hk.2) (.int .i64 t121)) (fun _ hk => hk.2) (.int .i64 t122)) (fun _ hk => ⟨hk.1.1.1.1.1.1.1, ⟨hk.1.1.1.1.1.1.2.1, hk.1.1.1.1.1.1.2.2⟩⟩))⟩, ⟨vz (Kd.aJ_ (Kd.V_far (p := ⟨gb125, 2, none⟩) (Kd.V_far (p := ⟨gb125, 1, none⟩) (Kd.V_far (p := ⟨gb125, 0, none⟩) (Kd.V_far (p := ⟨gb124, 2, none⟩) (Kd.V_far (p := ⟨gb124, 1, none⟩) (Kd.V_far (p := ⟨gb124, 0, none⟩) (Kd.V_far (p := ⟨gb123, 2, none⟩) (Kd.V_far (p := ⟨gb123, 1, none⟩) (Kd.V_far (p := ⟨gb123, 0, none⟩) (Kd.aJ_ (Kd.aJ_ (Kd.aJ_ HO_2.out (fun k_ hk => (⟨hk, hk.1.1.2⟩ : _ ∧ k_ ≠ gb123))) (fun k_ hk => (⟨hk, hk.1.1.2⟩ : _ ∧ k_ ≠ gb124))) (fun k_ hk => (⟨hk, hk.1.1.2⟩ : _ ∧ k_ ≠ gb125))) (fun _ hk => hk.1.1.2) (.string t114)) (fun _ hk => hk.1.1.2) (.int .i64 t115)) (fun _ hk => hk.1.1.2) (.int .i64 t116)) (fun _ hk => hk.1.2) (.string t117)) (fun _ hk => hk.1.2) (.int .i64 t118)) (fun _ hk => hk.1.2) (.int .i64 t119)) (fun _ hk => hk.2) (.string t120)) (fun _ hk => hk.2) (.int .i64 t121)) (fun _ hk => hk.2) (.int .i64 t122)) (fun _ hk => ⟨hk.1.1.1.1.1.1.1, ⟨hk.1.1.1.1.1.1.2.1, hk.1.1.1.1.1.1.2.2⟩⟩))⟩, ⟨rz (Kd.aB_ (Kd.R_far (p := ⟨gb125, 2, none⟩) (Kd.R_far (p := ⟨gb125, 1, none⟩) (Kd.R_far (p := ⟨gb125, 0, none⟩) (Kd.R_far (p := ⟨gb124, 2, none⟩) (Kd.R_far (p := ⟨gb124, 1, none⟩) (Kd.R_far (p := ⟨gb124, 0, none⟩) (Kd.R_far (p := ⟨gb123, 2, none⟩) (Kd.R_far (p := ⟨gb123, 1, none⟩) (Kd.R_far (p := ⟨gb123, 0, none⟩) (Kd.bs_ (Kd.bs_ (Kd.bs_ HO_8.out BK123.out (by decide)) BK124.out (by decide)) BK125.out (by decide)) (fun _ hk => hk.1.1.2) (.string t114)) (fun _ hk => hk.1.1.2) (.int .i64 t115)) (fun _ hk => hk.1.1.2) (.int .i64 t116)) (fun _ hk => hk.1.2) (.string t117)) (fun _ hk => hk.1.2) (.int .i64 t118)) (fun _ hk => hk.1.2) (.int .i64 t119)) (fun _ hk => hk.2) (.string t120)) (fun _ hk => hk.2) (.int .i64 t121)) (fun _ hk => hk.2) (.int .i64 t122)) (fun _ hk => ⟨hk.1.1.1.1, hk.1.1.1.2⟩))⟩, ⟨rz (Kd.aB_ (Kd.R_far (p := ⟨gb125, 2, none⟩) (Kd.R_far (p := ⟨gb125, 1, none⟩) (Kd.R_far (p := ⟨gb125, 0, none⟩) (Kd.R_far (p := ⟨gb124, 2, none⟩) (Kd.R_far (p := ⟨gb124, 1, none⟩) (Kd.R_far (p := ⟨gb124, 0, none⟩) (Kd.R_far (p := ⟨gb123, 2, none⟩) (Kd.R_far (p := ⟨gb123, 1, none⟩) (Kd.R_far (p := ⟨gb123, 0, none⟩) (Kd.bs_ (Kd.bs_ (Kd.bs_ HO_32.out BK123.out (by decide)) BK124.out (by decide)) BK125.out (by decide)) (fun _ hk => hk.1.1.2) (.string t114)) (fun _ hk => hk.1.1.2) (.int .i64 t115)) (fun _ hk => hk.1.1.2) (.int .i64 t116)) (fun _ hk => hk.1.2) (.string t117)) (fun _ hk => hk.1.2) (.int .i64 t118)) (fun _ hk => hk.1.2) (.int .i64 t119)) (fun _ hk => hk.2) (.string t120)) (fun _ hk => hk.2) (.int .i64 t121)) (fun _ hk => hk.2) (.int .i64 t122)) (fun _ hk => ⟨hk.1.1.1.1, hk.1.1.1.2⟩))⟩, ⟨bq⟩⟩
      rw [if_pos c46] at H
      have c46b0 : (!(t120.toList == t114.toList) || (!(t121 == t115) || (!(t122 == t116)))) = true := c46
      clear c46
      (first | rw [c46b0] | (simp only [i64_w, i32_w]; rw [c46b0]) | (simp only [c46b1, Bool.not_true, Bool.not_false]) | (simp only [c46b0, Bool.not_true, Bool.not_false]) | skip)
      by_cases c47 : x8_2.length < 8796093022208
      rotate_left
      ·rw [if_neg c47] at H
       exact absurd H (by simp)
      rw [if_pos c47] at H
      have LMc47 := Aside0.mk c47
      clear c47
      obtain ⟨y126, hy126⟩ : ∃ y_ : List ByteArray, y_ = (x8_2 ++ [rdOf ByteArray.empty t110 x34_2]) := ⟨_, rfl⟩
      replace H : (av_.l0 k2 l0 l1 l2 y126 t110 (t110.length : Int) (wrap64 (x34_2 + 1))) = some (r1, r2) := by first | (rw [hy126]; with_reducible exact H) | (have H2_ := (Option.bind_some _ _).symm.trans H; rw [hy126]; with_reducible exact H2_) | (have H2_ := (Option.bind_some _ _).symm.trans H; with_reducible exact H2_) | with_reducible exact H | (rw [hy126]; exact H) | exact H
      have Ny126 := Aside0.mk hy126
      clear hy126
      have H' := Aside0.mk H
      clear H
      go_wp2_with (first | ((with_reducible refine be_ (b := .append) (xs := #[.tmp 60, .tmp 62]) rfl ?_); at_builtin; refine Kd.cw_ Kd.string (w0 := w) w.heap.size rfl (.tmp 60) (.tmp 62) 24 9 (.string ⟨#[]⟩) 16 rfl Try.underlying24 info9 rfl (by decide) (by omega) u8 x8_2 (rdOf ByteArray.empty t110 x34_2) [.string (rdOf ByteArray.empty t110 x34_2)] (fun k_ => (w.heap.size ≤ k_) ∧ some k_ ≠ (.slice (some ad113) t110.length co24 : Value).ownBlock) (fun _ => False) rfl (by first | (go_simp; done) | (go_simp; rfl)) ?aP (fun _ hk => hk.elim) ?aF ?aO ?aB ?aS ?aL ?_; (case aP => exact rfl); (case aB => exact (bq)); (case aF => exact (fun k_ hk => ⟨(Nat.le_trans (ae_ (bq)) hk), Kd.fresh' (Kd.R_lt (rz (Kd.aB_ (Kd.aB_ (Kd.aB_ (Kd.R_far (p := ⟨gb125, 2, none⟩) (Kd.R_far (p := ⟨gb125, 1, none⟩) (Kd.R_far (p := ⟨gb125, 0, none⟩) (Kd.R_far (p := ⟨gb124, 2, none⟩) (Kd.R_far (p := ⟨gb124, 1, none⟩) (Kd.R_far (p := ⟨gb124, 0, none⟩) (Kd.R_far (p := ⟨gb123, 2, none⟩) (Kd.R_far (p := ⟨gb123, 1, none⟩) (Kd.R_far (p := ⟨gb123, 0, none⟩) (Kd.bs_ (Kd.bs_ (Kd.bs_ HO_32.out BK123.out (by decide)) BK124.out (by decide)) BK125.out (by decide)) (fun _ hk => hk.1.1.2) (.string t114)) (fun _ hk => hk.1.1.2) (.int .i64 t115)) (fun _ hk => hk.1.1.2) (.int .i64 t116)) (fun _ hk => hk.1.2) (.string t117)) (fun _ hk => hk.1.2) (.int .i64 t118)) (fun _ hk => hk.1.2) (.int .i64 t119)) (fun _ hk => hk.2) (.string t120)) (fun _ hk => hk.2) (.int .i64 t121)) (fun _ hk => hk.2) (.int .i64 t122)) (fun _ h_ => h_.1)) (fun _ h_ => h_.1)) (fun _ h_ => h_.1)))) k_ hk⟩)); (case aO => exact (rz (Kd.aB_ (Kd.R_far (p := ⟨gb125, 2, none⟩) (Kd.R_far (p := ⟨gb125, 1, none⟩) (Kd.R_far (p := ⟨gb125, 0, none⟩) (Kd.R_far (p := ⟨gb124, 2, none⟩) (Kd.R_far (p := ⟨gb124, 1, none⟩) (Kd.R_far (p := ⟨gb124, 0, none⟩) (Kd.R_far (p := ⟨gb123, 2, none⟩) (Kd.R_far (p := ⟨gb123, 1, none⟩) (Kd.R_far (p := ⟨gb123, 0, none⟩) (Kd.bs_ (Kd.bs_ (Kd.bs_ HO_8.out BK123.out (by decide)) BK124.out (by decide)) BK125.out (by decide)) (fun _ hk => hk.1.1.2) (.string t114)) (fun _ hk => hk.1.1.2) (.int .i64 t115)) (fun _ hk => hk.1.1.2) (.int .i64 t116)) (fun _ hk => hk.1.2) (.string t117)) (fun _ hk => hk.1.2) (.int .i64 t118)) (fun _ hk => hk.1.2) (.int .i64 t119)) (fun _ hk => hk.2) (.string t120)) (fun _ hk => hk.2) (.int .i64 t121)) (fun _ hk => hk.2) (.int .i64 t122)) (fun _ hk => ⟨hk.1.1.1.1, hk.1.1.1.2⟩)))); (case aS => exact (ae_ (bq))); (case aL => have := LMc47.out; omega); intro v127 w48 ho hb hg hat; rw [← Ny126.out] at ho; replace HO_0 := Aside0.mk (Kd.di_ (ok := (fun k_ => ((P0_ k_ ∨ P1_ k_ ∨ P2_ k_) ∨ w.heap.size ≤ k_) ∧ some k_ ≠ (.slice (some ad113) t110.length co24 : Value).ownBlock ∧ k_ ≠ gb123 ∧ k_ ≠ gb124 ∧ k_ ≠ gb125)) (vz (Kd.aJ_ (Kd.V_far (p := ⟨gb125, 2, none⟩) (Kd.V_far (p := ⟨gb125, 1, none⟩) (Kd.V_far (p := ⟨gb125, 0, none⟩) (Kd.V_far (p := ⟨gb124, 2, none⟩) (Kd.V_far (p := ⟨gb124, 1, none⟩) (Kd.V_far (p := ⟨gb124, 0, none⟩) (Kd.V_far (p := ⟨gb123, 2, none⟩) (Kd.V_far (p := ⟨gb123, 1, none⟩) (Kd.V_far (p := ⟨gb123, 0, none⟩) (Kd.aJ_ (Kd.aJ_ (Kd.aJ_ HO_0.out (fun k_ hk => (⟨hk, hk.1.1.2⟩ : _ ∧ k_ ≠ gb123))) (fun k_ hk => (⟨hk, hk.1.1.2⟩ : _ ∧ k_ ≠ gb124))) (fun k_ hk => (⟨hk, hk.1.1.2⟩ : _ ∧ k_ ≠ gb125))) (fun _ hk => hk.1.1.2) (.string t114)) (fun _ hk => hk.1.1.2) (.int .i64 t115)) (fun _ hk => hk.1.1.2) (.int .i64 t116)) (fun _ hk => hk.1.2) (.string t117)) (fun _ hk => hk.1.2) (.int .i64 t118)) (fun _ hk => hk.1.2) (.int .i64 t119)) (fun _ hk => hk.2) (.string t120)) (fun _ hk => hk.2) (.int .i64 t121)) (fun _ hk => hk.2) (.int .i64 t122)) (fun _ hk => ⟨⟨hk.1.1.1.1.1.1.1, ⟨hk.1.1.1.1.1.1.2.2, ⟨hk.1.1.1.1.1.2, ⟨hk.1.1.1.1.2, hk.1.1.1.2⟩⟩⟩⟩, hk.1.1.1.1.1.1.2.1⟩))) hg hat); replace HO_1 := Aside0.mk (Kd.di_ (ok := (fun k_ => ((P0_ k_ ∨ P1_ k_ ∨ P2_ k_) ∨ w.heap.size ≤ k_) ∧ some k_ ≠ (.slice (some ad113) t110.length co24 : Value).ownBlock ∧ k_ ≠ gb123 ∧ k_ ≠ gb124 ∧ k_ ≠ gb125)) (vz (Kd.aJ_ (Kd.V_far (p := ⟨gb125, 2, none⟩) (Kd.V_far (p := ⟨gb125, 1, none⟩) (Kd.V_far (p := ⟨gb125, 0, none⟩) (Kd.V_far (p := ⟨gb124, 2, none⟩) (Kd.V_far (p := ⟨gb124, 1, none⟩) (Kd.V_far (p := ⟨gb124, 0, none⟩) (Kd.V_far (p := ⟨gb123, 2, none⟩) (Kd.V_far (p := ⟨gb123, 1, none⟩) (Kd.V_far (p := ⟨gb123, 0, none⟩) (Kd.aJ_ (Kd.aJ_ (Kd.aJ_ HO_1.out (fun k_ hk => (⟨hk, hk.1.1.2⟩ : _ ∧ k_ ≠ gb123))) (fun k_ hk => (⟨hk, hk.1.1.2⟩ : _ ∧ k_ ≠ gb124))) (fun k_ hk => (⟨hk, hk.1.1.2⟩ : _ ∧ k_ ≠ gb125))) (fun _ hk => hk.1.1.2) (.string t114)) (fun _ hk => hk.1.1.2) (.int .i64 t115)) (fun _ hk => hk.1.1.2) (.int .i64 t116)) (fun _ hk => hk.1.2) (.string t117)) (fun _ hk => hk.1.2) (.int .i64 t118)) (fun _ hk => hk.1.2) (.int .i64 t119)) (fun _ hk => hk.2) (.string t120)) (fun _ hk => hk.2) (.int .i64 t121)) (fun _ hk => hk.2) (.int .i64 t122)) (fun _ hk => ⟨⟨hk.1.1.1.1.1.1.1, ⟨hk.1.1.1.1.1.1.2.2, ⟨hk.1.1.1.1.1.2, ⟨hk.1.1.1.1.2, hk.1.1.1.2⟩⟩⟩⟩, hk.1.1.1.1.1.1.2.1⟩))) hg hat); replace HO_2 := Aside0.mk (Kd.di_ (ok := (fun k_ => ((P0_ k_ ∨ P1_ k_ ∨ P2_ k_) ∨ w.heap.size ≤ k_) ∧ some k_ ≠ (.slice (some ad113) t110.length co24 : Value).ownBlock ∧ k_ ≠ gb123 ∧ k_ ≠ gb124 ∧ k_ ≠ gb125)) (vz (Kd.aJ_ (Kd.V_far (p := ⟨gb125, 2, none⟩) (Kd.V_far (p := ⟨gb125, 1, none⟩) (Kd.V_far (p := ⟨gb125, 0, none⟩) (Kd.V_far (p := ⟨gb124, 2, none⟩) (Kd.V_far (p := ⟨gb124, 1, none⟩) (Kd.V_far (p := ⟨gb124, 0, none⟩) (Kd.V_far (p := ⟨gb123, 2, none⟩) (Kd.V_far (p := ⟨gb123, 1, none⟩) (Kd.V_far (p := ⟨gb123, 0, none⟩) (Kd.aJ_ (Kd.aJ_ (Kd.aJ_ HO_2.out (fun k_ hk => (⟨hk, hk.1.1.2⟩ : _ ∧ k_ ≠ gb123))) (fun k_ hk => (⟨hk, hk.1.1.2⟩ : _ ∧ k_ ≠ gb124))) (fun k_ hk => (⟨hk, hk.1.1.2⟩ : _ ∧ k_ ≠ gb125))) (fun _ hk => hk.1.1.2) (.string t114)) (fun _ hk => hk.1.1.2) (.int .i64 t115)) (fun _ hk => hk.1.1.2) (.int .i64 t116)) (fun _ hk => hk.1.2) (.string t117)) (fun _ hk => hk.1.2) (.int .i64 t118)) (fun _ hk => hk.1.2) (.int .i64 t119)) (fun _ hk => hk.2) (.string t120)) (fun _ hk => hk.2) (.int .i64 t121)) (fun _ hk => hk.2) (.int .i64 t122)) (fun _ hk => ⟨⟨hk.1.1.1.1.1.1.1, ⟨hk.1.1.1.1.1.1.2.2, ⟨hk.1.1.1.1.1.2, ⟨hk.1.1.1.1.2, hk.1.1.1.2⟩⟩⟩⟩, hk.1.1.1.1.1.1.2.1⟩))) hg hat); replace HO_32 := Aside0.mk (Kd.dn_ (ok := (fun k_ => (w.heap.size ≤ k_))) (rz (Kd.aB_ (Kd.R_far (p := ⟨gb125, 2, none⟩) (Kd.R_far (p := ⟨gb125, 1, none⟩) (Kd.R_far (p := ⟨gb125, 0, none⟩) (Kd.R_far (p := ⟨gb124, 2, none⟩) (Kd.R_far (p := ⟨gb124, 1, none⟩) (Kd.R_far (p := ⟨gb124, 0, none⟩) (Kd.R_far (p := ⟨gb123, 2, none⟩) (Kd.R_far (p := ⟨gb123, 1, none⟩) (Kd.R_far (p := ⟨gb123, 0, none⟩) (Kd.bs_ (Kd.bs_ (Kd.bs_ HO_32.out BK123.out (by decide)) BK124.out (by decide)) BK125.out (by decide)) (fun _ hk => hk.1.1.2) (.string t114)) (fun _ hk => hk.1.1.2) (.int .i64 t115)) (fun _ hk => hk.1.1.2) (.int .i64 t116)) (fun _ hk => hk.1.2) (.string t117)) (fun _ hk => hk.1.2) (.int .i64 t118)) (fun _ hk => hk.1.2) (.int .i64 t119)) (fun _ hk => hk.2) (.string t120)) (fun _ hk => hk.2) (.int .i64 t121)) (fun _ hk => hk.2) (.int .i64 t122)) (fun _ hk => ⟨hk.1.1.1.1, hk.1.1.1.2⟩))) hg hat); replace BK123 := Aside0.mk (bS_ (g := gb123) (o := .cells #[.string t114, .int .i64 t115, .int .i64 t116] 61 (0, 0)) (by exact kf (kf (kf (kf (kf (kf (kj3_2 (kj3_1 (kj3_0 (kz BK123.out)))) NB123_124.out) NB123_124.out) NB123_124.out) NB123_125.out) NB123_125.out) NB123_125.out) hg (Kd.R_ne HO_8.out BK123.out (by decide))); replace BK124 := Aside0.mk (bS_ (g := gb124) (o := .cells #[.string t117, .int .i64 t118, .int .i64 t119] 61 (0, 0)) (by exact kf (kf (kf (kj3_2 (kj3_1 (kj3_0 (kf (kf (kf (kz BK124.out) NB124_123.out) NB124_123.out) NB124_123.out)))) NB124_125.out) NB124_125.out) NB124_125.out) hg (Kd.R_ne HO_8.out BK124.out (by decide))); replace BK125 := Aside0.mk (bS_ (g := gb125) (o := .cells #[.string t120, .int .i64 t121, .int .i64 t122] 61 (0, 0)) (by exact kj3_2 (kj3_1 (kj3_0 (kf (kf (kf (kf (kf (kf (kz BK125.out) NB125_123.out) NB125_123.out) NB125_123.out) NB125_124.out) NB125_124.out) NB125_124.out)))) hg (Kd.R_ne HO_8.out BK125.out (by decide))); replace HB := Aside0.mk (hb); have HO128 := Aside0.mk (ho); clear HO_8; clear ho hb hg hat))
      go_roundg k2
      case measure => have := HJ3.out; have := HK2.out; omega
      case rel => exact ⟨(y126), (wrap64 (x34_2 + 1)), (by first | rfl | (simp; done) | (simp [*]; done)), H', ⟨by have := HJ3.out; have := HK2.out; omega⟩, ⟨vz (Kd.aJ_ HO_0.out (fun _ hk => ⟨hk.1.1, ⟨hk.2, hk.1.2.1⟩⟩))⟩, ⟨vz (Kd.aJ_ HO_1.out (fun _ hk => ⟨hk.1.1, ⟨hk.2, hk.1.2.1⟩⟩))⟩, ⟨vz (Kd.aJ_ HO_2.out (fun _ hk => ⟨hk.1.1, ⟨hk.2, hk.1.2.1⟩⟩))⟩, ⟨rz HO128.out⟩, ⟨rz HO_32.out⟩, ⟨bq⟩⟩
   subst c16
   have H1 : (some (([] : List ByteArray), 1)) = some (r1, r2) := by rw [if_pos rfl] at H; exact H
   clear H
   have H := H1
   clear H1
   simp only [Option.some.injEq, Prod.mk.injEq] at H
   obtain ⟨rfl, rfl⟩ := H
   go_wp2
   go_ret2
   exact ⟨_, by first | rfl | (simp [*, ao_, an_] <;> rfl), by first | exact Kd.R_nil _ _ _ _ _ | exact Kd.N_nil _ _ _ _ _ | exact Kd.V_nil _ _ _ _ _ | exact Kd.Q_nil _ _ _ _ _ | exact Kd.S_nil _ _ _ _ _, bz HB.out⟩
mutual
def al_.j0 : Nat → List (S63) → List (S63) → List (S63) → Int → Bool → Option ((List (S63)) × Int)
 | 0, _, _, _, _, _ => none
 | k + 1, x0, x1, x2, x9, x27 => if x27 = true then (al_.j1 k x0 x1 x2 6) else (al_.j1 k x0 x1 x2 x9)
def al_.j1 : Nat → List (S63) → List (S63) → List (S63) → Int → Option ((List (S63)) × Int)
 | 0, _, _, _, _ => none
 | k + 1, x0, x1, x2, x9 => if x9 = 0 then ((ba_.f k (([x1, x2] : List (List (S63))))).bind fun t111 => (al_.l0 k x0 x1 x2 (([] : List (S63))) t111 (t111.length : Int) 0)) else (some (([] : List (S63)), x9))
def al_.l0 : Nat → List (S63) → List (S63) → List (S63) → List (S63) → List ByteArray → Int → Int → Option ((List (S63)) × Int)
 | 0, _, _, _, _, _, _, _ => none
 | k + 1, x0, x1, x2, x10, x35, x36, x37 => if x37 < x36 then (if 0 ≤ x37 then (if x37 < (x35.length : Int) then ((bF_.f k x1 (rdOf ByteArray.empty x35 x37)).bind fun bt115 => ((bF_.f k x0 (rdOf ByteArray.empty x35 x37)).bind fun bt119 => (if (bt115.1.toList == bt119.1.toList && (bt115.2.1 == bt119.2.1 && (bt115.2.2 == bt119.2.2))) = true then ((bF_.f k x2 (rdOf ByteArray.empty x35 x37)).bind fun bt122 => (if (!(bt122.1.toList == ([] : List UInt8)) || (!(bt122.2.1 == 0) || (!(bt122.2.2 == 0)))) = true then (if x10.length < 2932031007402 then (al_.l0 k x0 x1 x2 (x10 ++ [(⟨rdOf ByteArray.empty x35 x37, (⟨bt122.1, bt122.2.1, bt122.2.2⟩ : S61)⟩ : S63)]) x35 x36 (wrap64 (x37 + 1))) else (none)) else (al_.l0 k x0 x1 x2 x10 x35 x36 (wrap64 (x37 + 1))))) else (if (!(bt115.1.toList == ([] : List UInt8)) || (!(bt115.2.1 == 0) || (!(bt115.2.2 == 0)))) = true then (if x10.length < 2932031007402 then (al_.l0 k x0 x1 x2 (x10 ++ [(⟨rdOf ByteArray.empty x35 x37, (⟨bt115.1, bt115.2.1, bt115.2.2⟩ : S61)⟩ : S63)]) x35 x36 (wrap64 (x37 + 1))) else (none)) else (al_.l0 k x0 x1 x2 x10 x35 x36 (wrap64 (x37 + 1))))))) else (none)) else (none)) else (if (x10.length : Int) > 24 then (some (([] : List (S63)), 5)) else (some (x10, 0)))
end
def al_.f (k : Nat) (l0 : List (S63)) (l1 : List (S63)) (l2 : List (S63)) : Option ((List (S63)) × Int) := (av_.f k l0 l1 l2).bind fun bt101 => (if bt101.2 = 0 then (al_.j0 k l0 l1 l2 bt101.2 (decide ((bt101.1.length : Int) > 0))) else (al_.j0 k l0 l1 l2 bt101.2 false))
set_option maxHeartbeats 8000000 in
set_option maxRecDepth 100000 in
theorem al_.calls (k : Nat) (A0 : Option Addr) (c0 : Nat) (l0 : List (S63)) (P1_ : Nat → Prop) (A1 : Option Addr) (c1 : Nat) (l1 : List (S63)) (P2_ : Nat → Prop) (A2 : Option Addr) (c2 : Nat) (l2 : List (S63)) (r1 : List (S63)) (r2 : Int) (w : World) (hr0 : Kd.C k63 w A0 l0.length l0) (hc0 : l0.length ≤ c0) (hs1 : Kd.V k63 63 w w.heap.size (fun k_ => P1_ k_) (.slice A1 l1.length c1) l1) (hs2 : Kd.V k63 63 w w.heap.size (fun k_ => P2_ k_) (.slice A2 l2.length c2) l2) (h : al_.f k l0 l1 l2 = some (r1, r2)) :
  Calls Try.prog 17 #[.slice A0 l0.length c0, .slice A1 l1.length c1, .slice A2 l2.length c2] w fun e w' => ∃ v0_ : Value, e = .returned (.tuple #[v0_, .int .i64 r2]) ∧ Kd.R k63 63 w' w.heap.size (fun k_ => (w.heap.size ≤ k_)) v0_ r1 ∧ Below w.heap.size w w' := by
 have hu61 := Try.underlying61
 have hu63 := Try.underlying63
 have HR0 := Aside0.mk hr0
 have HC0 := Aside0.mk hc0
 clear hr0 hc0
 have HO1 := Aside0.mk (show Kd.V k63 63 w w.heap.size (fun k_ => ((P1_ k_ ∨ P2_ k_) ∨ w.heap.size ≤ k_)) (.slice A1 l1.length c1) l1 from Kd.aJ_ hs1 (fun k_ hk => .inl (.inl hk)))
 have HO2 := Aside0.mk (show Kd.V k63 63 w w.heap.size (fun k_ => ((P1_ k_ ∨ P2_ k_) ∨ w.heap.size ≤ k_)) (.slice A2 l2.length c2) l2 from Kd.aJ_ hs2 (fun k_ hk => .inl (.inr hk)))
 have HB := Aside0.mk (Below.refl w.heap.size w)
 have H : ((av_.f k l0 l1 l2).bind fun bt101 => (if bt101.2 = 0 then (al_.j0 k l0 l1 l2 bt101.2 (decide ((bt101.1.length : Int) > 0))) else (al_.j0 k l0 l1 l2 bt101.2 false))) = some (r1, r2) := h
 clear h
 replace H := Option.bind_eq_some_iff.mp H
 obtain ⟨⟨t101, t104⟩, A40, H⟩ := H
 (try dsimp only at H)
 have A4 := Aside0.mk A40
 clear A40
 have HC5 := Aside0.mk H
 clear H
 go_enter Try.func17, Try.ntmps17
 go_upto_region 2 with (first | ((with_reducible refine ah_ (f := 10) rfl ?_); refine aN_ (some 18) rfl rfl Try.func10 (by kernel_rfl) rfl #[.slice A0 l0.length c0, .slice A1 l1.length c1, .slice A2 l2.length c2] rfl (by first | rfl | (simp only [lma_, lmc_, lmn_]; first | done | rfl)) ?_; (with_reducible refine (av_.calls k (fun k_ => k_ < w.heap.size) _ _ l0 (fun k_ => ((P1_ k_ ∨ P2_ k_) ∨ w.heap.size ≤ k_)) _ _ l1 (fun k_ => ((P1_ k_ ∨ P2_ k_) ∨ w.heap.size ≤ k_)) _ _ l2 t101 t104 _ ?side1 ?side2 ?side3 A4.out).mono ?_); (case side1 => exact Kd.V_mk HC0.out (Kd.F_below (Kd.C_F k63_heap HR0.out) (bz HB.out))); (case side2 => exact HO1.out); (case side3 => exact HO2.out); rintro e w6 ⟨v102, rfl, ho0, hb⟩; refine ⟨_, rfl, ?_⟩; replace HO1 := Aside0.mk (Kd.bQ_ (vz HO1.out) (Kd.aZ_ ho0) hb); replace HO2 := Aside0.mk (Kd.bQ_ (vz HO2.out) (Kd.aZ_ ho0) hb); have HO103 := Aside0.mk (Kd.bt_ (Kd.do_ (M := fun k_ => (w.heap.size ≤ k_)) (Kd.aB_ (ok' := fun k_ => True) ho0 (fun _ hk_ => trivial)) (ae_ (bz HB.out)) (fun k_ h_ => h_)) (ae_ (bz HB.out))); replace HB := Aside0.mk (ac_ (bz HB.out) hb); (try clear hb); (try clear ho0)))
 (try simp only [Act.put, lsa_, ls0_, ls1_])
 go_cut [27] (fun v27 wc => ∃ (kq : Nat) (x27_4 : Bool), v27 = .bool x27_4 ∧ Aside0 (al_.j0 kq l0 l1 l2 t104 x27_4 = some (r1, r2)) ∧ Aside0 (kq ≤ k) ∧ Aside0 (Kd.V k63 63 wc w.heap.size (fun k_ => ((P1_ k_ ∨ P2_ k_) ∨ w.heap.size ≤ k_)) (.slice A1 l1.length c1) l1) ∧ Aside0 (Kd.V k63 63 wc w.heap.size (fun k_ => ((P1_ k_ ∨ P2_ k_) ∨ w.heap.size ≤ k_)) (.slice A2 l2.length c2) l2) ∧ Aside0 (Below w.heap.size w wc))
 case first =>
  have H := HC5.out
  clear HC5
  by_cases c7 : t104 = 0
  rotate_left
  ·rw [if_neg c7] at H
   have c7b0 : (t104 == 0) = false := beq_eq_false_iff_ne.mpr c7
   have c7b1 : (t104 != 0) = true := bne_iff_ne.mpr c7
   (first | rw [c7b0] | (simp only [i64_w, i32_w]; rw [c7b0]) | (simp only [c7b1, Bool.not_true, Bool.not_false]) | (simp only [c7b0, Bool.not_true, Bool.not_false]) | skip)
   have H' := Aside0.mk H
   clear H
   go_wp2
   go_meet
   case rel => exact ⟨_, (false), (by first | rfl | (simp; done) | (simp [*]; done)), H', ⟨by first | omega | exact Nat.le_refl _⟩, ⟨vz (Kd.aJ_ HO1.out (fun _ hk => hk.1))⟩, ⟨vz (Kd.aJ_ HO2.out (fun _ hk => hk.1))⟩, ⟨bz HB.out⟩⟩
  rw [if_pos c7] at H
  have c7b0 : (t104 == 0) = true := beq_iff_eq.mpr c7
  have c7b1 : (t104 != 0) = false := bne_eq_false_iff_eq.mpr c7
  clear c7
  (first | rw [c7b0] | (simp only [i64_w, i32_w]; rw [c7b0]) | (simp only [c7b1, Bool.not_true, Bool.not_false]) | (simp only [c7b0, Bool.not_true, Bool.not_false]) | skip)
  have H' := Aside0.mk H
  clear H
  obtain ⟨Ao8, co8, eo8⟩ := Kd.bn_ HO103.out
  subst eo8
  go_wp2
  go_meet
  case rel => exact ⟨_, (decide ((t101.length : Int) > 0)), (by first | rfl | (simp; done) | (simp [*]; done)), H', ⟨by first | omega | exact Nat.le_refl _⟩, ⟨vz (Kd.aJ_ HO1.out (fun _ hk => hk.1))⟩, ⟨vz (Kd.aJ_ HO2.out (fun _ hk => hk.1))⟩, ⟨bz HB.out⟩⟩
 case rest =>
  clear HC5
  obtain ⟨kq, x27_4, rfl, HA, HJ4, HO_1, HO_2, HB⟩ := hcut
  cases kq with
  | zero => exact absurd HA.out (by simp [al_.j0])
  | succ kj4 =>
   have H := HA.out
   clear HA
   simp only [al_.j0] at H
   have HC9 := Aside0.mk H
   clear H
   go_upto_if 27 with (fail)
   go_cut [9] (fun v9 wc => ∃ (kq : Nat) (x9_8 : Int), v9 = .int .i64 x9_8 ∧ Aside0 (al_.j1 kq l0 l1 l2 x9_8 = some (r1, r2)) ∧ Aside0 (kq ≤ kj4) ∧ Aside0 (Kd.V k63 63 wc w.heap.size (fun k_ => ((P1_ k_ ∨ P2_ k_) ∨ w.heap.size ≤ k_)) (.slice A1 l1.length c1) l1) ∧ Aside0 (Kd.V k63 63 wc w.heap.size (fun k_ => ((P1_ k_ ∨ P2_ k_) ∨ w.heap.size ≤ k_)) (.slice A2 l2.length c2) l2) ∧ Aside0 (Below w.heap.size w wc))
   case first =>
    have H := HC9.out
    clear HC9
    by_cases c10 : x27_4 = true
    rotate_left
    ·replace c10 := Bool.eq_false_iff.mpr c10
     subst c10
     have H1 : (al_.j1 kj4 l0 l1 l2 t104) = some (r1, r2) := by rw [if_neg (show ¬ (false = true) by decide)] at H; exact H
     clear H
     have H := H1
     clear H1
     have H' := Aside0.mk H
     clear H
     go_wp2
     go_meet
     case rel => exact ⟨_, (t104), (by first | rfl | (simp; done) | (simp [*]; done)), H', ⟨by have := HJ4.out; first | omega | exact Nat.le_refl _⟩, ⟨vz HO_1.out⟩, ⟨vz HO_2.out⟩, ⟨bz HB.out⟩⟩
    subst c10
    have H1 : (al_.j1 kj4 l0 l1 l2 6) = some (r1, r2) := by rw [if_pos rfl] at H; exact H
    clear H
    have H := H1
    clear H1
    have H' := Aside0.mk H
    clear H
    go_wp2
    go_meet
    case rel => exact ⟨_, (6), (by first | rfl | (simp; done) | (simp [*]; done)), H', ⟨by have := HJ4.out; first | omega | exact Nat.le_refl _⟩, ⟨vz HO_1.out⟩, ⟨vz HO_2.out⟩, ⟨bz HB.out⟩⟩
   case rest =>
    clear HC9
    obtain ⟨kq, x9_8, rfl, HA, HJ8, HO_1, HO_2, HB⟩ := hcut
    cases kq with
    | zero => exact absurd HA.out (by simp [al_.j1])
    | succ kj8 =>
     have H := HA.out
     clear HA
     simp only [al_.j1] at H
     by_cases c11 : x9_8 = 0
     rotate_left
     ·rw [if_neg c11] at H
      have c11b0 : (x9_8 == 0) = false := beq_eq_false_iff_ne.mpr c11
      have c11b1 : (x9_8 != 0) = true := bne_iff_ne.mpr c11
      simp only [Option.some.injEq, Prod.mk.injEq] at H
      obtain ⟨rfl, rfl⟩ := H
      go_wp2
      go_ret2
      exact ⟨_, by first | rfl | (simp [*, ao_, an_] <;> rfl), by first | exact Kd.R_nil _ _ _ _ _ | exact Kd.N_nil _ _ _ _ _ | exact Kd.V_nil _ _ _ _ _ | exact Kd.Q_nil _ _ _ _ _ | exact Kd.S_nil _ _ _ _ _, bz HB.out⟩
     rw [if_pos c11] at H
     have c11b0 : (x9_8 == 0) = true := beq_iff_eq.mpr c11
     have c11b1 : (x9_8 != 0) = false := bne_eq_false_iff_eq.mpr c11
     clear c11
     obtain ⟨y105, hy105⟩ : ∃ y_ : List (S63), y_ = (([] : List (S63))) := ⟨_, rfl⟩
     replace H : ((ba_.f kj8 (([l1, l2] : List (List (S63))))).bind fun t111 => (al_.l0 kj8 l0 l1 l2 y105 t111 (t111.length : Int) 0)) = some (r1, r2) := by first | (rw [hy105]; with_reducible exact H) | (have H2_ := (Option.bind_some _ _).symm.trans H; rw [hy105]; with_reducible exact H2_) | (have H2_ := (Option.bind_some _ _).symm.trans H; with_reducible exact H2_) | with_reducible exact H | (rw [hy105]; exact H) | exact H
     have Ny105 := Aside0.mk hy105
     clear hy105
     obtain ⟨y108, hy108⟩ : ∃ y_ : List (List (S63)), y_ = (([l1, l2] : List (List (S63)))) := ⟨_, rfl⟩
     replace H : ((ba_.f kj8 y108).bind fun t111 => (al_.l0 kj8 l0 l1 l2 y105 t111 (t111.length : Int) 0)) = some (r1, r2) := by first | (rw [hy108]; with_reducible exact H) | (have H2_ := (Option.bind_some _ _).symm.trans H; rw [hy108]; with_reducible exact H2_) | (have H2_ := (Option.bind_some _ _).symm.trans H; with_reducible exact H2_) | with_reducible exact H | (rw [hy108]; exact H) | exact H
     have Ny108 := Aside0.mk hy108
     clear hy108
     replace H := Option.bind_eq_some_iff.mp H
     obtain ⟨t111, A120, H⟩ := H
     (try dsimp only at H)
     have A12 := Aside0.mk A120
     clear A120
     have H' := Aside0.mk H
     clear H
     go_wp2_with (first | ((with_reducible refine aH_ (N := 31) rfl ?_); (try (refine gate_guard (by rfl) ?_; dsimp only)); refine Kd.R_lit k63 _ 63 ?hg (N := 31) ?hd (xs := ([] : List (S63))) (inner := []) (ok := fun _ => True) (okp := fun _ => True) ?hr ?hp (fun _ hk => hk) trivial (Below.refl _ _) (Nat.le_refl _) (by simp) ?_; (case hd => rfl); (case hg => rfl); (case hr => (go_simp; try rfl)); (case hp => exact (Reps.none _ _)); intro v106 w13 ho14 hb hg_ hnew_; clear hg_ hnew_; (first | rw [← Ny105.out] at ho14 | (simp only [Int.reduceToNat] at ho14; rw [← Ny105.out] at ho14)); replace HO_1 := Aside0.mk (Kd.bQ_ (vz HO_1.out) (Kd.aZ_ ho14) hb); replace HO_2 := Aside0.mk (Kd.bQ_ (vz HO_2.out) (Kd.aZ_ ho14) hb); have HO107 := Aside0.mk (Kd.bt_ (Kd.do_ (M := fun k_ => (w.heap.size ≤ k_)) ho14 (ae_ (bz HB.out)) (fun k_ h_ => h_)) (ae_ (bz HB.out))); replace HB := Aside0.mk (ac_ (bz HB.out) hb); clear hb ho14) | ((with_reducible refine aH_ (N := 34) rfl ?_); (try (refine gate_guard (by rfl) ?_; dsimp only)); refine Kd.N_lit (Kd.slice 63 k63) _ 27 ?hg (N' := 34) ?hd (xs := ([l1, l2] : List (List (S63)))) (inner := [.slice A1 l1.length c1, .slice A2 l2.length c2]) (ok := (fun k_ => ((P1_ k_ ∨ P2_ k_) ∨ w.heap.size ≤ k_) ∧ some k_ ≠ (v106 : Value).ownBlock)) (okp := (fun k_ => ((P1_ k_ ∨ P2_ k_) ∨ w.heap.size ≤ k_) ∧ some k_ ≠ (v106 : Value).ownBlock)) ?hr ?hp (fun _ hk => hk) ((show ∀ k_, w13.heap.size ≤ k_ → (fun k_ => ((P1_ k_ ∨ P2_ k_) ∨ w.heap.size ≤ k_) ∧ some k_ ≠ (v106 : Value).ownBlock) k_ from fun k_ hk => ⟨(.inr (Nat.le_trans (ae_ (bz HB.out)) hk)), Kd.fresh' (Kd.R_lt (rz HO107.out)) k_ hk⟩) _ (Nat.le_refl _)) (Below.refl _ _) (Nat.le_refl _) (by simp) ?_; (case hd => rfl); (case hg => rfl); (case hr => (go_simp; try rfl)); (case hp => exact (Reps.one (show Kd.FK (Kd.slice 63 k63) _ _ l1 [.slice A1 l1.length c1] from (Kd.cg_ (Kd.bz_ (Kd.aJ_ (ok' := (fun k_ => ((P1_ k_ ∨ P2_ k_) ∨ w.heap.size ≤ k_) ∧ some k_ ≠ (v106 : Value).ownBlock)) (HO_1.out) (fun k_ hk => ⟨hk.1, hk.2⟩))).2.1 (Kd.V_F (Kd.aJ_ (ok' := (fun k_ => ((P1_ k_ ∨ P2_ k_) ∨ w.heap.size ≤ k_) ∧ some k_ ≠ (v106 : Value).ownBlock)) (HO_1.out) (fun k_ hk => ⟨hk.1, hk.2⟩))))) (Reps.one (show Kd.FK (Kd.slice 63 k63) _ _ l2 [.slice A2 l2.length c2] from (Kd.cg_ (Kd.bz_ (Kd.aJ_ (ok' := (fun k_ => ((P1_ k_ ∨ P2_ k_) ∨ w.heap.size ≤ k_) ∧ some k_ ≠ (v106 : Value).ownBlock)) (HO_2.out) (fun k_ hk => ⟨hk.1, hk.2⟩))).2.1 (Kd.V_F (Kd.aJ_ (ok' := (fun k_ => ((P1_ k_ ∨ P2_ k_) ∨ w.heap.size ≤ k_) ∧ some k_ ≠ (v106 : Value).ownBlock)) (HO_2.out) (fun k_ hk => ⟨hk.1, hk.2⟩))))) (Reps.none _ _)))); intro v109 w15 ho16 hb hg_ hnew_; clear hg_ hnew_; (first | rw [← Ny108.out] at ho16 | (simp only [Int.reduceToNat] at ho16; rw [← Ny108.out] at ho16)); replace HO_1 := Aside0.mk (Kd.bQ_ (vz HO_1.out) (Kd.N_base ho16) hb); replace HO_2 := Aside0.mk (Kd.bQ_ (vz HO_2.out) (Kd.N_base ho16) hb); replace HO107 := Aside0.mk (Kd.aT_ (rz HO107.out) hb); have HO110 := Aside0.mk (Kd.ds_ ho16 (ae_ (bz HB.out))); replace HB := Aside0.mk (ac_ (bz HB.out) hb); clear hb ho16; obtain ⟨Ao17, co17, eo17⟩ := Kd.N_slice HO110.out; subst eo17) | ((with_reducible refine ah_ (f := 40) rfl ?_); refine aN_ (some 35) rfl rfl Try.func40 (by kernel_rfl) rfl #[.slice Ao17 y108.length co17] rfl (by first | rfl | (simp only [lma_, lmc_, lmn_]; first | done | rfl)) ?_; (with_reducible refine (ba_.calls kj8 _ _ y108 t111 _ ?side1 ?side2 A12.out).mono ?_); (case side1 => exact cz (Kd.da_ HO110.out).2.2); (case side2 => exact (Kd.da_ HO110.out).2.1); rintro e w18 ⟨v112, rfl, ho0, hb⟩; refine ⟨_, rfl, ?_⟩; replace HO_1 := Aside0.mk (Kd.bQ_ (vz HO_1.out) (Kd.aZ_ ho0) hb); replace HO_2 := Aside0.mk (Kd.bQ_ (vz HO_2.out) (Kd.aZ_ ho0) hb); replace HO107 := Aside0.mk (Kd.aT_ (rz HO107.out) hb); replace HO110 := Aside0.mk (Kd.N_elder' (nz HO110.out) (Kd.aZ_ ho0) hb); have HO113 := Aside0.mk (Kd.bt_ (Kd.do_ (M := fun k_ => (w.heap.size ≤ k_)) ho0 (ae_ (bz HB.out)) (fun k_ h_ => h_)) (ae_ (bz HB.out))); replace HB := Aside0.mk (ac_ (bz HB.out) hb); (try clear hb); (try clear ho0); obtain ⟨Ao19, co19, eo19⟩ := Kd.bn_ HO113.out; subst eo19))
     (try simp only [Act.put, lsa_, ls0_, ls1_])
     go_loopg [10, 37] kj8 (fun kq v10 v37 w' => ∃ (x10_3 : List (S63)) (x37_3 : Int), v37 = .int .i64 x37_3 ∧ Aside0 (al_.l0 kq l0 l1 l2 x10_3 t111 (t111.length : Int) x37_3 = some (r1, r2)) ∧ Aside0 (kq ≤ kj8) ∧ Aside0 (Kd.V k63 63 w' w.heap.size (fun k_ => ((P1_ k_ ∨ P2_ k_) ∨ w.heap.size ≤ k_) ∧ some k_ ≠ (v10 : Value).ownBlock ∧ some k_ ≠ ((.slice Ao19 t111.length co19) : Value).ownBlock) (.slice A1 l1.length c1) l1) ∧ Aside0 (Kd.V k63 63 w' w.heap.size (fun k_ => ((P1_ k_ ∨ P2_ k_) ∨ w.heap.size ≤ k_) ∧ some k_ ≠ (v10 : Value).ownBlock ∧ some k_ ≠ ((.slice Ao19 t111.length co19) : Value).ownBlock) (.slice A2 l2.length c2) l2) ∧ Aside0 (Kd.R k63 63 w' w.heap.size (fun k_ => (w.heap.size ≤ k_)) v10 x10_3) ∧ Aside0 (Kd.R Kd.string 9 w' w.heap.size (fun k_ => (w.heap.size ≤ k_)) (.slice Ao19 t111.length co19) t111) ∧ Aside0 (Below w.heap.size w w'))
     case atStart => exact ⟨(y105), (0), (by first | rfl | (simp; done) | (simp [*]; done)), H', ⟨Nat.le_refl _⟩, ⟨vz (Kd.aJ_ HO_1.out (fun _ hk => ⟨hk.1.1.1, ⟨hk.1.1.2, hk.2⟩⟩))⟩, ⟨vz (Kd.aJ_ HO_2.out (fun _ hk => ⟨hk.1.1.1, ⟨hk.1.1.2, hk.2⟩⟩))⟩, ⟨rz (Kd.aB_ HO107.out (fun _ hk => hk.1))⟩, ⟨rz (Kd.aB_ HO113.out (fun _ hk => hk.1))⟩, ⟨bz HB.out⟩⟩
     case round =>
      clear H'
      obtain ⟨x10_3, x37_3, rfl, HA, HK3, HO_1, HO_2, HO_10, HO_35, HB⟩ := hrel
      cases gk with
      | zero => exact absurd HA.out (by simp [al_.l0])
      | succ k3 =>
       have H := HA.out
       clear HA
       simp only [al_.l0] at H
       by_cases c20 : x37_3 < (t111.length : Int)
       rotate_left
       ·rw [if_neg c20] at H
        have c20b0 : decide (x37_3 < (t111.length : Int)) = false := decide_eq_false c20
        clear c20
        by_cases c46 : (x10_3.length : Int) > 24
        rotate_left
        ·rw [if_neg c46] at H
         have c46b0 : decide (24 < (x10_3.length : Int)) = false := decide_eq_false c46
         have c46b1 : decide (24 < x10_3.length) = false := decide_eq_false (by omega)
         clear c46
         simp only [Option.some.injEq, Prod.mk.injEq] at H
         obtain ⟨rfl, rfl⟩ := H
         obtain ⟨Ao48, co48, eo48⟩ := Kd.bn_ HO_10.out
         subst eo48
         go_wp2
         go_ret2
         exact ⟨_, by first | rfl | (simp [*, ao_, an_] <;> rfl), rz HO_10.out, bz HB.out⟩
        rw [if_pos c46] at H
        have c46b0 : decide (24 < (x10_3.length : Int)) = true := decide_eq_true c46
        have c46b1 : decide (24 < x10_3.length) = true := decide_eq_true (by omega)
        clear c46
        simp only [Option.some.injEq, Prod.mk.injEq] at H
        obtain ⟨rfl, rfl⟩ := H
        obtain ⟨Ao47, co47, eo47⟩ := Kd.bn_ HO_10.out
        subst eo47
        go_wp2
        go_ret2
        exact ⟨_, by first | rfl | (simp [*, ao_, an_] <;> rfl), by first | exact Kd.R_nil _ _ _ _ _ | exact Kd.N_nil _ _ _ _ _ | exact Kd.V_nil _ _ _ _ _ | exact Kd.Q_nil _ _ _ _ _ | exact Kd.S_nil _ _ _ _ _, bz HB.out⟩
       rw [if_pos c20] at H
       have c20b0 : decide (x37_3 < (t111.length : Int)) = true := decide_eq_true c20
       clear c20
       by_cases c21 : 0 ≤ x37_3
       rotate_left
       ·rw [if_neg c21] at H
        exact absurd H (by simp)
       rw [if_pos c21] at H
       have c21b0 : decide (0 ≤ x37_3) = true := decide_eq_true c21
       clear c21
       by_cases c22 : x37_3 < (t111.length : Int)
       rotate_left
       ·rw [if_neg c22] at H
        exact absurd H (by simp)
       rw [if_pos c22] at H
       have c22b0 : decide (x37_3 < (t111.length : Int)) = true := decide_eq_true c22
       clear c22
       replace H := Option.bind_eq_some_iff.mp H
       obtain ⟨⟨t115, t116, t117⟩, A230, H⟩ := H
       (try dsimp only at H)
       have A23 := Aside0.mk A230
       clear A230
       replace H := Option.bind_eq_some_iff.mp H
       obtain ⟨⟨t119, t120, t121⟩, A240, H⟩ := H
       (try dsimp only at H)
       have A24 := Aside0.mk A240
       clear A240
       have HC25 := Aside0.mk H
       clear H
       have p114 : 0 ≤ (x37_3 : Int) := of_decide_eq_true (by assumption)
       have q114 : x37_3 < (t111.length : Int) := of_decide_eq_true (by assumption)
       obtain ⟨ad114, e114, hx114_0⟩ := Kd.cz_ (Kd.as_ HO_35.out).2.2 x37_3 p114 q114
       cases e114
       replace p114 := eq_true p114
       replace q114 := eq_true q114
       try go_wp2_with (first | ((with_reducible refine ah_ (f := 41) rfl ?_); refine aN_ (some 43) rfl rfl Try.func41 (by kernel_rfl) rfl #[.slice A1 l1.length c1, .string (rdOf ByteArray.empty t111 x37_3)] rfl (by first | rfl | (simp only [lma_, lmc_, lmn_]; first | done | rfl)) ?_; (with_reducible refine (bF_.calls k3 _ _ l1 (rdOf ByteArray.empty t111 x37_3) t115 t116 t117 _ ?side1 ?side2 A23.out).mono ?_); (case side1 => exact cz (Kd.bz_ HO_1.out).2.2); (case side2 => exact (Kd.bz_ HO_1.out).2.1); rintro e w26 ⟨rfl, hb⟩; refine ⟨_, rfl, ?_⟩; replace HO_1 := Aside0.mk (Kd.aU_ (vz HO_1.out) hb); replace HO_2 := Aside0.mk (Kd.aU_ (vz HO_2.out) hb); replace HO_10 := Aside0.mk (Kd.aT_ (rz HO_10.out) hb); replace HO_35 := Aside0.mk (Kd.aT_ (rz HO_35.out) hb); replace HB := Aside0.mk (ac_ (bz HB.out) hb); (try clear hb)) | ((with_reducible refine aH_ (N := 13) rfl ?_); (try (refine gate_guard (by rfl) ?_; dsimp only)); refine by_ ?hg (N := 13) ?hd (cs := #[.string (⟨#[]⟩ : ByteArray), .int .i64 0, .int .i64 0]) (t := 61) ?hr ?_; (case hd => rfl); (case hg => rfl); (case hr => (go_simp; try rfl)); intro gb118 hg w27 hbox hb; replace HO_1 := Aside0.mk (Kd.aU_ (Kd.bJ_ (vz HO_1.out) gb118 (Nat.le_of_eq hg.symm)) hb); replace HO_2 := Aside0.mk (Kd.aU_ (Kd.bJ_ (vz HO_2.out) gb118 (Nat.le_of_eq hg.symm)) hb); replace HO_10 := Aside0.mk (Kd.aT_ (rz HO_10.out) hb); replace HO_35 := Aside0.mk (Kd.aT_ (rz HO_35.out) hb); have BK118 := Aside0.mk (hbox); have GW118 := Aside0.mk ((by rw [hg]; exact (ae_ (bz HB.out)) : w.heap.size ≤ gb118)); have GE118 := GW118; replace HB := Aside0.mk (ac_ (bz HB.out) hb); clear hb hbox hg; obtain ⟨hcz28_0, hcz28_1, hcz28_2⟩ := cz3_ BK118.out; obtain ⟨hfz28_0, hfz28_1, hfz28_2⟩ := fz3_ BK118.out))
       have n0_ : Aside0 (Kd.V k63 63 (((w27.setCell ⟨gb118, 0, none⟩ (.string t115)).setCell ⟨gb118, 1, none⟩ (.int .i64 t116)).setCell ⟨gb118, 2, none⟩ (.int .i64 t117)) w.heap.size (fun k_ => ((P1_ k_ ∨ P2_ k_) ∨ w.heap.size ≤ k_) ∧ some k_ ≠ (u10 : Value).ownBlock ∧ some k_ ≠ (.slice (some ad114) t111.length co19 : Value).ownBlock ∧ k_ ≠ gb118) (.slice A1 l1.length c1) l1) := ⟨vz (Kd.aJ_ (Kd.V_far (p := ⟨gb118, 2, none⟩) (Kd.V_far (p := ⟨gb118, 1, none⟩) (Kd.V_far (p := ⟨gb118, 0, none⟩) (Kd.aJ_ HO_1.out (fun k_ hk => (⟨hk, hk.2⟩ : _ ∧ k_ ≠ gb118))) (fun _ hk => hk.2) (.string t115)) (fun _ hk => hk.2) (.int .i64 t116)) (fun _ hk => hk.2) (.int .i64 t117)) (fun _ hk => ⟨hk.1.1.1, ⟨hk.1.1.2.1, ⟨hk.1.1.2.2, hk.1.2⟩⟩⟩))⟩
       have n1_ : Aside0 (Kd.V k63 63 (((w27.setCell ⟨gb118, 0, none⟩ (.string t115)).setCell ⟨gb118, 1, none⟩ (.int .i64 t116)).setCell ⟨gb118, 2, none⟩ (.int .i64 t117)) w.heap.size (fun k_ => ((P1_ k_ ∨ P2_ k_) ∨ w.heap.size ≤ k_) ∧ some k_ ≠ (u10 : Value).ownBlock ∧ some k_ ≠ (.slice (some ad114) t111.length co19 : Value).ownBlock ∧ k_ ≠ gb118) (.slice A2 l2.length c2) l2) := ⟨vz (Kd.aJ_ (Kd.V_far (p := ⟨gb118, 2, none⟩) (Kd.V_far (p := ⟨gb118, 1, none⟩) (Kd.V_far (p := ⟨gb118, 0, none⟩) (Kd.aJ_ HO_2.out (fun k_ hk => (⟨hk, hk.2⟩ : _ ∧ k_ ≠ gb118))) (fun _ hk => hk.2) (.string t115)) (fun _ hk => hk.2) (.int .i64 t116)) (fun _ hk => hk.2) (.int .i64 t117)) (fun _ hk => ⟨hk.1.1.1, ⟨hk.1.1.2.1, ⟨hk.1.1.2.2, hk.1.2⟩⟩⟩))⟩
       have n2_ : Aside0 (Kd.R k63 63 (((w27.setCell ⟨gb118, 0, none⟩ (.string t115)).setCell ⟨gb118, 1, none⟩ (.int .i64 t116)).setCell ⟨gb118, 2, none⟩ (.int .i64 t117)) w.heap.size (fun k_ => (w.heap.size ≤ k_)) u10 x10_3) := ⟨rz (Kd.aB_ (Kd.R_far (p := ⟨gb118, 2, none⟩) (Kd.R_far (p := ⟨gb118, 1, none⟩) (Kd.R_far (p := ⟨gb118, 0, none⟩) (Kd.bs_ HO_10.out BK118.out (by decide)) (fun _ hk => hk.2) (.string t115)) (fun _ hk => hk.2) (.int .i64 t116)) (fun _ hk => hk.2) (.int .i64 t117)) (fun _ hk => hk.1))⟩
       have n3_ : Aside0 (Kd.R Kd.string 9 (((w27.setCell ⟨gb118, 0, none⟩ (.string t115)).setCell ⟨gb118, 1, none⟩ (.int .i64 t116)).setCell ⟨gb118, 2, none⟩ (.int .i64 t117)) w.heap.size (fun k_ => (w.heap.size ≤ k_)) (.slice (some ad114) t111.length co19) t111) := ⟨rz (Kd.aB_ (Kd.R_far (p := ⟨gb118, 2, none⟩) (Kd.R_far (p := ⟨gb118, 1, none⟩) (Kd.R_far (p := ⟨gb118, 0, none⟩) (Kd.bs_ HO_35.out BK118.out (by decide)) (fun _ hk => hk.2) (.string t115)) (fun _ hk => hk.2) (.int .i64 t116)) (fun _ hk => hk.2) (.int .i64 t117)) (fun _ hk => hk.1))⟩
       have n4_ : Aside0 ((((w27.setCell ⟨gb118, 0, none⟩ (.string t115)).setCell ⟨gb118, 1, none⟩ (.int .i64 t116)).setCell ⟨gb118, 2, none⟩ (.int .i64 t117)).heap[gb118]? = some (.cells #[.string t115, .int .i64 t116, .int .i64 t117] 61 (0, 0))) := ⟨by exact kj3_2 (kj3_1 (kj3_0 (kz BK118.out)))⟩
       have n5_ : Aside0 (Below w.heap.size w (((w27.setCell ⟨gb118, 0, none⟩ (.string t115)).setCell ⟨gb118, 1, none⟩ (.int .i64 t116)).setCell ⟨gb118, 2, none⟩ (.int .i64 t117))) := ⟨bq⟩
       (try clear HO_1)
       (try clear HO_2)
       (try clear HO_10)
       (try clear HO_35)
       (try clear BK118)
       (try clear HB)
       generalize (((w27.setCell ⟨gb118, 0, none⟩ (.string t115)).setCell ⟨gb118, 1, none⟩ (.int .i64 t116)).setCell ⟨gb118, 2, none⟩ (.int .i64 t117)) = w29 at n0_ n1_ n2_ n3_ n4_ n5_ ⊢
       have HO_1 := n0_
       have HO_2 := n1_
       have HO_10 := n2_
       have HO_35 := n3_
       have BK118 := n4_
       have HB := n5_
       clear n0_ n1_ n2_ n3_ n4_ n5_
       have n0_ := Aside0.mk (Kd.V_drew HO_1.out)
       have n1_ := Aside0.mk (Kd.V_drew HO_2.out)
       have n2_ := Aside0.mk (Kd.R_drew HO_10.out)
       have n3_ := Aside0.mk (Kd.R_drew HO_35.out)
       have n4_ := Aside0.mk (cP_ BK118.out)
       have n5_ := Aside0.mk (bD_ HB.out)
       clear HO_1
       clear HO_2
       clear HO_10
       clear HO_35
       clear BK118
       clear HB
       have HO_1 := n0_
       have HO_2 := n1_
       have HO_10 := n2_
       have HO_35 := n3_
       have BK118 := n4_
       have HB := n5_
       clear n0_ n1_ n2_ n3_ n4_ n5_
       refine start_ (n := 5) (S := fun w' => w'.cell? ⟨gb118, 0, none⟩ = some (.string t115) ∧ w'.cell? ⟨gb118, 1, none⟩ = some (.int .i64 t116) ∧ w'.cell? ⟨gb118, 2, none⟩ = some (.int .i64 t117)) (ds := []) #[f_,f_,f_,f_,f_] (by kernel_rfl) rfl rfl ⟨(aY_ BK118.out 0).trans rfl, (aY_ BK118.out 1).trans rfl, (aY_ BK118.out 2).trans rfl⟩ (fun hHeld => ?_)
       generalize w29.drew = w30 at HO_1 HO_2 HO_10 HO_35 BK118 HB hHeld ⊢
       refine pure_ (i := 1) (N := some 45) (v := ?_) (a' := ?_) #[f_,t_,f_,f_,f_] rfl rfl (by kernel_rfl) (fun _ _ _ h => h) (Or.inl ⟨by rfl, ?_⟩) ?_ ?_
       rotate_left
       ·intro w'
        go_simp
        with_reducible rfl
       rotate_left
       ·simp only [Act.put, lsa_, ls0_, ls1_, i64_w, i32_w]
        rfl
       refine pure_ (i := 2) (N := some 46) (v := ?_) (a' := ?_) #[f_,t_,t_,f_,f_] rfl rfl (by kernel_rfl) (fun _ _ _ h => h) (Or.inl ⟨by rfl, ?_⟩) ?_ ?_
       rotate_left
       ·intro w'
        go_simp
        with_reducible rfl
       rotate_left
       ·simp only [Act.put, lsa_, ls0_, ls1_, i64_w, i32_w]
        rfl
       refine take_ (i := 0) (N := some 44) (v := ?_) (a' := ?_) #[t_,t_,t_,f_,f_] rfl rfl (by kernel_rfl) (fun _ _ _ h => h) (Or.inl ⟨by rfl, ?_⟩) hHeld ?_ ?_
       rotate_left
       ·rintro w' ⟨s0, s1, s2⟩
        go_simp
        with_reducible rfl
       rotate_left
       ·simp only [Act.put, lsa_, ls0_, ls1_, i64_w, i32_w]
        rfl
       refine one_ (i := 3) (N := some 47) #[t_,t_,t_,t_,f_] rfl rfl (by kernel_rfl) (by decide) (fun K hK => ?_)
       (first | refine goes_ Try.func41 (by kernel_rfl) rfl #[.slice A0 l0.length c0, .string (rdOf ByteArray.empty t111 x37_3)] (by rfl) rfl rfl (by first | rfl | (simp only [lma_, lmc_, lmn_]; first | done | rfl)) ?_ | refine RPW.dc_ Try.func41 (by kernel_rfl) rfl #[.slice A0 l0.length c0, .string (rdOf ByteArray.empty t111 x37_3)] (by rfl) rfl rfl rfl (by first | rfl | (simp only [lma_, lmc_, lmn_]; first | done | rfl)) ?_ | refine RPW.dd_ Try.func41 (by kernel_rfl) rfl #[.slice A0 l0.length c0, .string (rdOf ByteArray.empty t111 x37_3)] (by rfl) rfl rfl rfl (by first | rfl | (simp only [lma_, lmc_, lmn_]; first | done | rfl)) ?_)
       with_reducible refine (bF_.calls k3 _ _ l0 (rdOf ByteArray.empty t111 x37_3) t119 t120 t121 _ ?side1 ?side2 A24.out).mono ?_
       (case side1 => exact cz (Kd.bM_ HR0.out HB.out))
       (case side2 => exact HC0.out)
       rintro e w31 ⟨rfl, hb⟩
       refine ⟨_, rfl, ?_⟩
       have n0_ := Aside0.mk (Kd.aU_ (vz HO_1.out) hb)
       have n1_ := Aside0.mk (Kd.aU_ (vz HO_2.out) hb)
       have n2_ := Aside0.mk (Kd.aT_ (rz HO_10.out) hb)
       have n3_ := Aside0.mk (Kd.aT_ (rz HO_35.out) hb)
       have n4_ := Aside0.mk (bb_ (kz BK118.out) hb)
       have n5_ := Aside0.mk (ac_ (bq) hb)
       clear HO_1
       clear HO_2
       clear HO_10
       clear HO_35
       clear BK118
       clear HB
       have HO_1 := n0_
       have HO_2 := n1_
       have HO_10 := n2_
       have HO_35 := n3_
       have BK118 := n4_
       have HB := n5_
       clear n0_ n1_ n2_ n3_ n4_ n5_
       (try clear hb)
       refine hK.out _ _ ⟨(aY_ BK118.out 0).trans rfl, (aY_ BK118.out 1).trans rfl, (aY_ BK118.out 2).trans rfl⟩ (fun hHeld => ?_)
       clear hK K
       refine norm_ (a' := ?_) ?_ ?_
       rotate_left
       ·show Act.put _ (some 47) _ = _
        simp only [Act.put, lsa_, ls0_, ls1_, i64_w, i32_w]
        rfl
       refine pure_ (i := 4) (N := some 48) (v := ?_) (a' := ?_) #[t_,t_,t_,t_,t_] rfl rfl (by kernel_rfl) (fun _ _ _ h => h) (Or.inl ⟨by rfl, ?_⟩) ?_ ?_
       rotate_left
       ·intro w'
        go_simp
        with_reducible rfl
       rotate_left
       ·simp only [Act.put, lsa_, ls0_, ls1_, i64_w, i32_w]
        rfl
       refine done_ (by kernel_rfl) ?_
       go_upto_if 48 with (fail)
       have H := HC25.out
       clear HC25
       by_cases c32 : (t115.toList == t119.toList && (t116 == t120 && (t117 == t121))) = true
       rotate_left
       ·rw [if_neg c32] at H
        have c32b0 : (t115.toList == t119.toList && (t116 == t120 && (t117 == t121))) = false := by simpa using c32
        (try (have c32b1 : decide (t115.toList = t119.toList && (t116 == t120 && (t117 == t121))) = false := by simpa using c32))
        (try (have c32b2 : (t115.toList == t119.toList && (t116 == t120 && (t117 == t121))) = false := by simpa using c32))
        (try (have c32b3 : ¬ (t115.toList = t119.toList && (t116 == t120 && (t117 == t121))) := by simpa using c32))
        clear c32
        (first | rw [c32b0] | (simp only [i64_w, i32_w]; rw [c32b0]) | (simp only [c32b2, Bool.not_true, Bool.not_false]) | (simp only [c32b1, Bool.not_true, Bool.not_false]) | (simp only [c32b0, Bool.not_true, Bool.not_false]) | skip)
        by_cases c41 : (!(t115.toList == ([] : List UInt8)) || (!(t116 == 0) || (!(t117 == 0)))) = true
        rotate_left
        ·rw [if_neg c41] at H
         have c41b0 : (!(t115.toList == ([] : List UInt8)) || (!(t116 == 0) || (!(t117 == 0)))) = false := by simpa using c41
         (try (have c41b8 := c41b0; simp only [List.beq_nil_eq] at c41b8))
         clear c41
         have H' := Aside0.mk H
         clear H
         obtain ⟨hcz45_0, hcz45_1, hcz45_2⟩ := cz3_ BK118.out
         obtain ⟨hfz45_0, hfz45_1, hfz45_2⟩ := fz3_ BK118.out
         go_wp2
         go_roundg k3
         case measure => have := HJ4.out; have := HJ8.out; have := HK3.out; omega
         case rel => exact ⟨(x10_3), (wrap64 (x37_3 + 1)), (by first | rfl | (simp; done) | (simp [*]; done)), H', ⟨by have := HJ4.out; have := HJ8.out; have := HK3.out; omega⟩, ⟨vz (Kd.aJ_ HO_1.out (fun _ hk => ⟨hk.1, ⟨hk.2.1, hk.2.2.1⟩⟩))⟩, ⟨vz (Kd.aJ_ HO_2.out (fun _ hk => ⟨hk.1, ⟨hk.2.1, hk.2.2.1⟩⟩))⟩, ⟨rz HO_10.out⟩, ⟨rz HO_35.out⟩, ⟨bq⟩⟩
        rw [if_pos c41] at H
        have c41b0 : (!(t115.toList == ([] : List UInt8)) || (!(t116 == 0) || (!(t117 == 0)))) = true := c41
        (try (have c41b8 := c41b0; simp only [List.beq_nil_eq] at c41b8))
        clear c41
        by_cases c42 : x10_3.length < 2932031007402
        rotate_left
        ·rw [if_neg c42] at H
         exact absurd H (by simp)
        rw [if_pos c42] at H
        have LMc42 := Aside0.mk c42
        clear c42
        obtain ⟨y128, hy128⟩ : ∃ y_ : List (S63), y_ = (x10_3 ++ [(⟨rdOf ByteArray.empty t111 x37_3, (⟨t115, t116, t117⟩ : S61)⟩ : S63)]) := ⟨_, rfl⟩
        replace H : (al_.l0 k3 l0 l1 l2 y128 t111 (t111.length : Int) (wrap64 (x37_3 + 1))) = some (r1, r2) := by first | (rw [hy128]; with_reducible exact H) | (have H2_ := (Option.bind_some _ _).symm.trans H; rw [hy128]; with_reducible exact H2_) | (have H2_ := (Option.bind_some _ _).symm.trans H; with_reducible exact H2_) | with_reducible exact H | (rw [hy128]; exact H) | exact H
        have Ny128 := Aside0.mk hy128
        clear hy128
        have H' := Aside0.mk H
        clear H
        obtain ⟨hcz43_0, hcz43_1, hcz43_2⟩ := cz3_ BK118.out
        obtain ⟨hfz43_0, hfz43_1, hfz43_2⟩ := fz3_ BK118.out
        go_wp2_with (first | ((with_reducible refine be_ (b := .append) (xs := #[.tmp 55, .tmp 59]) rfl ?_); (try (refine gate_guard (by rfl) ?_; dsimp only)); at_builtin; refine Kd.cw_ k63 (w0 := w) w.heap.size rfl (.tmp 55) (.tmp 59) 27 63 (.agg #[(.string ⟨#[]⟩), (.string ⟨#[]⟩), (.int .i64 0), (.int .i64 0)]) 48 rfl Try.underlying27 cW_ rfl (by decide) (by omega) u10 x10_3 (⟨rdOf ByteArray.empty t111 x37_3, (⟨t115, t116, t117⟩ : S61)⟩ : S63) [.string (rdOf ByteArray.empty t111 x37_3), .string t115, .int .i64 t116, .int .i64 t117] (fun k_ => (w.heap.size ≤ k_)) (fun _ => False) rfl rfl ?aP (fun _ hk => hk.elim) ?aF ?aO ?aB ?aS ?aL ?_; (case aP => exact dg_ _ _ _ (⟨rdOf ByteArray.empty t111 x37_3, (⟨t115, t116, t117⟩ : S61)⟩ : S63)); (case aB => exact (bq)); (case aF => exact (fun k_ hk => (Nat.le_trans (ae_ (bq)) hk))); (case aO => exact (rz HO_10.out)); (case aS => exact (ae_ (bq))); (case aL => have := LMc42.out; omega); intro v129 w44 ho hb hg hat; rw [← Ny128.out] at ho; replace HO_1 := Aside0.mk (Kd.di_ (ok := (fun k_ => ((P1_ k_ ∨ P2_ k_) ∨ w.heap.size ≤ k_) ∧ some k_ ≠ (.slice (some ad114) t111.length co19 : Value).ownBlock ∧ k_ ≠ gb118)) (vz (Kd.aJ_ HO_1.out (fun _ hk => ⟨⟨hk.1, ⟨hk.2.2.1, hk.2.2.2⟩⟩, hk.2.1⟩))) hg hat); replace HO_2 := Aside0.mk (Kd.di_ (ok := (fun k_ => ((P1_ k_ ∨ P2_ k_) ∨ w.heap.size ≤ k_) ∧ some k_ ≠ (.slice (some ad114) t111.length co19 : Value).ownBlock ∧ k_ ≠ gb118)) (vz (Kd.aJ_ HO_2.out (fun _ hk => ⟨⟨hk.1, ⟨hk.2.2.1, hk.2.2.2⟩⟩, hk.2.1⟩))) hg hat); replace HO_35 := Aside0.mk (Kd.R_over' (rz HO_35.out) (Kd.cR_ (rz HO_10.out)) (by decide) hg); replace BK118 := Aside0.mk (bS_ (g := gb118) (o := .cells #[.string t115, .int .i64 t116, .int .i64 t117] 61 (0, 0)) (kz BK118.out) hg (Kd.R_ne HO_10.out BK118.out (by decide))); replace HB := Aside0.mk (hb); have HO130 := Aside0.mk (ho); clear HO_10; clear ho hb hg hat))
        go_roundg k3
        case measure => have := HJ4.out; have := HJ8.out; have := HK3.out; omega
        case rel => exact ⟨(y128), (wrap64 (x37_3 + 1)), (by first | rfl | (simp; done) | (simp [*]; done)), H', ⟨by have := HJ4.out; have := HJ8.out; have := HK3.out; omega⟩, ⟨vz (Kd.aJ_ HO_1.out (fun _ hk => ⟨hk.1.1, ⟨hk.2, hk.1.2.1⟩⟩))⟩, ⟨vz (Kd.aJ_ HO_2.out (fun _ hk => ⟨hk.1.1, ⟨hk.2, hk.1.2.1⟩⟩))⟩, ⟨rz HO130.out⟩, ⟨rz HO_35.out⟩, ⟨bq⟩⟩
       rw [if_pos c32] at H
       have c32b0 : (t115.toList == t119.toList && (t116 == t120 && (t117 == t121))) = true := c32
       (try (have c32b1 : decide (t115.toList = t119.toList && (t116 == t120 && (t117 == t121))) = true := by simpa using c32))
       (try (have c32b2 : (t115.toList == t119.toList && (t116 == t120 && (t117 == t121))) = true := by simpa using c32))
       clear c32
       (first | rw [c32b0] | (simp only [i64_w, i32_w]; rw [c32b0]) | (simp only [c32b2, Bool.not_true, Bool.not_false]) | (simp only [c32b1, Bool.not_true, Bool.not_false]) | (simp only [c32b0, Bool.not_true, Bool.not_false]) | skip)
       replace H := Option.bind_eq_some_iff.mp H
       obtain ⟨⟨t122, t123, t124⟩, A330, H⟩ := H
       (try dsimp only at H)
       have A33 := Aside0.mk A330
       clear A330
       have HC34 := Aside0.mk H
       clear H
       go_upto_if 54 with (first | ((with_reducible refine ah_ (f := 41) rfl ?_); refine aN_ (some 51) rfl rfl Try.func41 (by kernel_rfl) rfl #[.slice A2 l2.length c2, .string (rdOf ByteArray.empty t111 x37_3)] rfl (by first | rfl | (simp only [lma_, lmc_, lmn_]; first | done | rfl)) ?_; (with_reducible refine (bF_.calls k3 _ _ l2 (rdOf ByteArray.empty t111 x37_3) t122 t123 t124 _ ?side1 ?side2 A33.out).mono ?_); (case side1 => exact cz (Kd.bz_ HO_2.out).2.2); (case side2 => exact (Kd.bz_ HO_2.out).2.1); rintro e w35 ⟨rfl, hb⟩; refine ⟨_, rfl, ?_⟩; replace HO_1 := Aside0.mk (Kd.aU_ (vz HO_1.out) hb); replace HO_2 := Aside0.mk (Kd.aU_ (vz HO_2.out) hb); replace HO_10 := Aside0.mk (Kd.aT_ (rz HO_10.out) hb); replace HO_35 := Aside0.mk (Kd.aT_ (rz HO_35.out) hb); replace BK118 := Aside0.mk (bb_ (kz BK118.out) hb); replace HB := Aside0.mk (ac_ (bq) hb); (try clear hb); obtain ⟨hcz36_0, hcz36_1, hcz36_2⟩ := cz3_ BK118.out; obtain ⟨hfz36_0, hfz36_1, hfz36_2⟩ := fz3_ BK118.out))
       (try simp only [Act.put, lsa_, ls0_, ls1_])
       have H := HC34.out
       clear HC34
       by_cases c37 : (!(t122.toList == ([] : List UInt8)) || (!(t123 == 0) || (!(t124 == 0)))) = true
       rotate_left
       ·rw [if_neg c37] at H
        have c37b0 : (!(t122.toList == ([] : List UInt8)) || (!(t123 == 0) || (!(t124 == 0)))) = false := by simpa using c37
        (try (have c37b8 := c37b0; simp only [List.beq_nil_eq] at c37b8))
        clear c37
        (first | rw [c37b0] | (simp only [i64_w, i32_w]; rw [c37b0]) | (simp only [c37b1, Bool.not_true, Bool.not_false]) | (simp only [c37b0, Bool.not_true, Bool.not_false]) | rw [c37b8] | (simp only [c37b8, Bool.not_true, Bool.not_false]) | skip)
        have H' := Aside0.mk H
        clear H
        go_wp2
        go_roundg k3
        case measure => have := HJ4.out; have := HJ8.out; have := HK3.out; omega
        case rel => exact ⟨(x10_3), (wrap64 (x37_3 + 1)), (by first | rfl | (simp; done) | (simp [*]; done)), H', ⟨by have := HJ4.out; have := HJ8.out; have := HK3.out; omega⟩, ⟨vz (Kd.aJ_ (Kd.V_far (p := ⟨gb118, 2, none⟩) (Kd.V_far (p := ⟨gb118, 1, none⟩) (Kd.V_far (p := ⟨gb118, 0, none⟩) (Kd.aJ_ HO_1.out (fun k_ hk => (⟨hk, hk.2.2.2⟩ : _ ∧ k_ ≠ gb118))) (fun _ hk => hk.2) (.string t122)) (fun _ hk => hk.2) (.int .i64 t123)) (fun _ hk => hk.2) (.int .i64 t124)) (fun _ hk => ⟨hk.1.1, ⟨hk.1.2.1, hk.1.2.2.1⟩⟩))⟩, ⟨vz (Kd.aJ_ (Kd.V_far (p := ⟨gb118, 2, none⟩) (Kd.V_far (p := ⟨gb118, 1, none⟩) (Kd.V_far (p := ⟨gb118, 0, none⟩) (Kd.aJ_ HO_2.out (fun k_ hk => (⟨hk, hk.2.2.2⟩ : _ ∧ k_ ≠ gb118))) (fun _ hk => hk.2) (.string t122)) (fun _ hk => hk.2) (.int .i64 t123)) (fun _ hk => hk.2) (.int .i64 t124)) (fun _ hk => ⟨hk.1.1, ⟨hk.1.2.1, hk.1.2.2.1⟩⟩))⟩, ⟨rz (Kd.aB_ (Kd.R_far (p := ⟨gb118, 2, none⟩) (Kd.R_far (p := ⟨gb118, 1, none⟩) (Kd.R_far (p := ⟨gb118, 0, none⟩) (Kd.bs_ HO_10.out BK118.out (by decide)) (fun _ hk => hk.2) (.string t122)) (fun _ hk => hk.2) (.int .i64 t123)) (fun _ hk => hk.2) (.int .i64 t124)) (fun _ hk => hk.1))⟩, ⟨rz (Kd.aB_ (Kd.R_far (p := ⟨gb118, 2, none⟩) (Kd.R_far (p := ⟨gb118, 1, none⟩) (Kd.R_far (p := ⟨gb118, 0, none⟩) (Kd.bs_ HO_35.out BK118.out (by decide)) (fun _ hk => hk.2) (.string t122)) (fun _ hk => hk.2) (.int .i64 t123)) (fun _ hk => hk.2) (.int .i64 t124)) (fun _ hk => hk.1))⟩, ⟨bq⟩⟩
       rw [if_pos c37] at H
       have c37b0 : (!(t122.toList == ([] : List UInt8)) || (!(t123 == 0) || (!(t124 == 0)))) = true := c37
       (try (have c37b8 := c37b0; simp only [List.beq_nil_eq] at c37b8))
       clear c37
       (first | rw [c37b0] | (simp only [i64_w, i32_w]; rw [c37b0]) | (simp only [c37b1, Bool.not_true, Bool.not_false]) | (simp only [c37b0, Bool.not_true, Bool.not_false]) | rw [c37b8] | (simp only [c37b8, Bool.not_true, Bool.not_false]) | skip)
       by_cases c38 : x10_3.length < 2932031007402
       rotate_left
       ·rw [if_neg c38] at H
        exact absurd H (by simp)
       rw [if_pos c38] at H
       have LMc38 := Aside0.mk c38
       clear c38
       obtain ⟨y125, hy125⟩ : ∃ y_ : List (S63), y_ = (x10_3 ++ [(⟨rdOf ByteArray.empty t111 x37_3, (⟨t122, t123, t124⟩ : S61)⟩ : S63)]) := ⟨_, rfl⟩
       replace H : (al_.l0 k3 l0 l1 l2 y125 t111 (t111.length : Int) (wrap64 (x37_3 + 1))) = some (r1, r2) := by first | (rw [hy125]; with_reducible exact H) | (have H2_ := (Option.bind_some _ _).symm.trans H; rw [hy125]; with_reducible exact H2_) | (have H2_ := (Option.bind_some _ _).symm.trans H; with_reducible exact H2_) | with_reducible exact H | (rw [hy125]; exact H) | exact H
       have Ny125 := Aside0.mk hy125
       clear hy125
       have H' := Aside0.mk H
       clear H
       obtain ⟨hcz39_0, hcz39_1, hcz39_2⟩ := cz3_ BK118.out
       obtain ⟨hfz39_0, hfz39_1, hfz39_2⟩ := fz3_ BK118.out
       go_wp2_with (first | ((with_reducible refine be_ (b := .append) (xs := #[.tmp 55, .tmp 59]) rfl ?_); (try (refine gate_guard (by rfl) ?_; dsimp only)); at_builtin; refine Kd.cw_ k63 (w0 := w) w.heap.size rfl (.tmp 55) (.tmp 59) 27 63 (.agg #[(.string ⟨#[]⟩), (.string ⟨#[]⟩), (.int .i64 0), (.int .i64 0)]) 48 rfl Try.underlying27 cW_ rfl (by decide) (by omega) u10 x10_3 (⟨rdOf ByteArray.empty t111 x37_3, (⟨t122, t123, t124⟩ : S61)⟩ : S63) [.string (rdOf ByteArray.empty t111 x37_3), .string t122, .int .i64 t123, .int .i64 t124] (fun k_ => (w.heap.size ≤ k_)) (fun _ => False) rfl (by first | (go_simp; done) | (go_simp; rfl)) ?aP (fun _ hk => hk.elim) ?aF ?aO ?aB ?aS ?aL ?_; (case aP => exact dg_ _ _ _ (⟨rdOf ByteArray.empty t111 x37_3, (⟨t122, t123, t124⟩ : S61)⟩ : S63)); (case aB => exact (bq)); (case aF => exact (fun k_ hk => (Nat.le_trans (ae_ (bq)) hk))); (case aO => exact (rz (Kd.aB_ (Kd.R_far (p := ⟨gb118, 2, none⟩) (Kd.R_far (p := ⟨gb118, 1, none⟩) (Kd.R_far (p := ⟨gb118, 0, none⟩) (Kd.bs_ HO_10.out BK118.out (by decide)) (fun _ hk => hk.2) (.string t122)) (fun _ hk => hk.2) (.int .i64 t123)) (fun _ hk => hk.2) (.int .i64 t124)) (fun _ hk => hk.1)))); (case aS => exact (ae_ (bq))); (case aL => have := LMc38.out; omega); intro v126 w40 ho hb hg hat; rw [← Ny125.out] at ho; replace HO_1 := Aside0.mk (Kd.di_ (ok := (fun k_ => ((P1_ k_ ∨ P2_ k_) ∨ w.heap.size ≤ k_) ∧ some k_ ≠ (.slice (some ad114) t111.length co19 : Value).ownBlock ∧ k_ ≠ gb118)) (vz (Kd.aJ_ (Kd.V_far (p := ⟨gb118, 2, none⟩) (Kd.V_far (p := ⟨gb118, 1, none⟩) (Kd.V_far (p := ⟨gb118, 0, none⟩) (Kd.aJ_ HO_1.out (fun k_ hk => (⟨hk, hk.2.2.2⟩ : _ ∧ k_ ≠ gb118))) (fun _ hk => hk.2) (.string t122)) (fun _ hk => hk.2) (.int .i64 t123)) (fun _ hk => hk.2) (.int .i64 t124)) (fun _ hk => ⟨⟨hk.1.1, ⟨hk.1.2.2.1, hk.1.2.2.2⟩⟩, hk.1.2.1⟩))) hg hat); replace HO_2 := Aside0.mk (Kd.di_ (ok := (fun k_ => ((P1_ k_ ∨ P2_ k_) ∨ w.heap.size ≤ k_) ∧ some k_ ≠ (.slice (some ad114) t111.length co19 : Value).ownBlock ∧ k_ ≠ gb118)) (vz (Kd.aJ_ (Kd.V_far (p := ⟨gb118, 2, none⟩) (Kd.V_far (p := ⟨gb118, 1, none⟩) (Kd.V_far (p := ⟨gb118, 0, none⟩) (Kd.aJ_ HO_2.out (fun k_ hk => (⟨hk, hk.2.2.2⟩ : _ ∧ k_ ≠ gb118))) (fun _ hk => hk.2) (.string t122)) (fun _ hk => hk.2) (.int .i64 t123)) (fun _ hk => hk.2) (.int .i64 t124)) (fun _ hk => ⟨⟨hk.1.1, ⟨hk.1.2.2.1, hk.1.2.2.2⟩⟩, hk.1.2.1⟩))) hg hat); replace HO_35 := Aside0.mk (Kd.R_over' (rz (Kd.aB_ (Kd.R_far (p := ⟨gb118, 2, none⟩) (Kd.R_far (p := ⟨gb118, 1, none⟩) (Kd.R_far (p := ⟨gb118, 0, none⟩) (Kd.bs_ HO_35.out BK118.out (by decide)) (fun _ hk => hk.2) (.string t122)) (fun _ hk => hk.2) (.int .i64 t123)) (fun _ hk => hk.2) (.int .i64 t124)) (fun _ h_ => h_.1))) (Kd.cR_ (rz (Kd.aB_ (Kd.R_far (p := ⟨gb118, 2, none⟩) (Kd.R_far (p := ⟨gb118, 1, none⟩) (Kd.R_far (p := ⟨gb118, 0, none⟩) (Kd.bs_ HO_10.out BK118.out (by decide)) (fun _ hk => hk.2) (.string t122)) (fun _ hk => hk.2) (.int .i64 t123)) (fun _ hk => hk.2) (.int .i64 t124)) (fun _ h_ => h_.1)))) (by decide) hg); replace BK118 := Aside0.mk (bS_ (g := gb118) (o := .cells #[.string t122, .int .i64 t123, .int .i64 t124] 61 (0, 0)) (by exact kj3_2 (kj3_1 (kj3_0 (kz BK118.out)))) hg (Kd.R_ne HO_10.out BK118.out (by decide))); replace HB := Aside0.mk (hb); have HO127 := Aside0.mk (ho); clear HO_10; clear ho hb hg hat))
       go_roundg k3
       case measure => have := HJ4.out; have := HJ8.out; have := HK3.out; omega
       case rel => exact ⟨(y125), (wrap64 (x37_3 + 1)), (by first | rfl | (simp; done) | (simp [*]; done)), H', ⟨by have := HJ4.out; have := HJ8.out; have := HK3.out; omega⟩, ⟨vz (Kd.aJ_ HO_1.out (fun _ hk => ⟨hk.1.1, ⟨hk.2, hk.1.2.1⟩⟩))⟩, ⟨vz (Kd.aJ_ HO_2.out (fun _ hk => ⟨hk.1.1, ⟨hk.2, hk.1.2.1⟩⟩))⟩, ⟨rz HO127.out⟩, ⟨rz HO_35.out⟩, ⟨bq⟩⟩
end Go.Proofs.Ytiheginanghhjaa.Q
namespace Go.Proofs.Ytiheginanghhjaa.Q
open Go.RowKit Go.Proofs.YtiheginanghhjaaW.PrintWords Go.Proofs.YtiheginanghhjaaW.PrintLast Go.Proofs.YtiheginanghhjaaW.PrintMore
attribute [local go_sem] aP_ aQ_ bh_ bg_ aE_ aD_ aR_ aO_
def bm_.l0 : Nat → ByteArray → Int → Option (Bool)
 | 0, _, _ => none
 | k + 1, x0, x3 => if x3 < (x0.size : Int) then (if 0 ≤ x3 then (if (bt x0 x3) < 32 then (some false) else (if (bt x0 x3) > 126 then (some false) else (bm_.l0 k x0 (wrap64 (x3 + 1))))) else (none)) else (some (decide ((x0.size : Int) ≤ 20)))
def bm_.f (k : Nat) (a0 : ByteArray) : Option (Bool) := bm_.l0 k a0 0
set_option maxHeartbeats 8000000 in
set_option maxRecDepth 100000 in
theorem bm_.calls (k : Nat) (a0 : ByteArray) (r : Bool) (w : World) (h : bm_.f k a0 = some r) :
  Calls Try.prog 54 #[.string a0] w fun e w' => e = .returned (.bool r) ∧ aq_ w w' := by
 have H : (bm_.l0 k a0 0) = some r := h
 clear h
 have H' := Aside0.mk H
 clear H
 go_enter Try.func54, Try.ntmps54
 go_wp2
 (try simp only [Act.put, lsa_, ls0_, ls1_])
 go_loopg [3] k (fun kq v3 w' => ∃ (x3_1 : Int), v3 = .int .i64 x3_1 ∧ Aside0 (bm_.l0 kq a0 x3_1 = some r) ∧ Aside0 (kq ≤ k) ∧ aq_ w w')
 case atStart => exact ⟨(0), (by first | rfl | (simp; done) | (simp [*]; done)), H', ⟨Nat.le_refl _⟩, by repeat (first | exact aq_.refl _ | apply aq_.step)⟩
 case round =>
  clear H'
  obtain ⟨x3_1, rfl, HA, HK1, ⟨m1, rfl⟩⟩ := hrel
  cases gk with
  | zero => exact absurd HA.out (by simp [bm_.l0])
  | succ k1 =>
   have H := HA.out
   clear HA
   simp only [bm_.l0] at H
   by_cases c2 : x3_1 < (a0.size : Int)
   rotate_left
   ·rw [if_neg c2] at H
    have c2b0 : decide (x3_1 < (a0.size : Int)) = false := decide_eq_false c2
    clear c2
    obtain rfl := Option.some.inj H
    go_wp2
    go_ret
    exact ⟨by first | rfl | (simp; done) | (simp [*]; done), by repeat (first | exact aq_.refl _ | apply aq_.step)⟩
   rw [if_pos c2] at H
   have c2b0 : decide (x3_1 < (a0.size : Int)) = true := decide_eq_true c2
   clear c2
   by_cases c3 : 0 ≤ x3_1
   rotate_left
   ·rw [if_neg c3] at H
    exact absurd H (by simp)
   rw [if_pos c3] at H
   have c3b0 : decide (0 ≤ x3_1) = true := decide_eq_true c3
   clear c3
   by_cases c5 : (bt a0 x3_1) < 32
   rotate_left
   ·rw [if_neg c5] at H
    have c5b0 : decide ((bt a0 x3_1) < 32) = false := decide_eq_false c5
    clear c5
    by_cases c7 : (bt a0 x3_1) > 126
    rotate_left
    ·rw [if_neg c7] at H
     have c7b0 : decide (126 < (bt a0 x3_1)) = false := decide_eq_false c7
     clear c7
     have H' := Aside0.mk H
     clear H
     have p4 : 0 ≤ (x3_1 : Int) := of_decide_eq_true (by assumption)
     have q4 : x3_1 < (a0.size : Int) := of_decide_eq_true (by assumption)
     have hx4 := bt_at a0 x3_1
     replace p4 := eq_true p4
     replace q4 := eq_true q4
     have p6 : 0 ≤ (x3_1 : Int) := of_decide_eq_true (by assumption)
     have q6 : x3_1 < (a0.size : Int) := of_decide_eq_true (by assumption)
     have hx6 := bt_at a0 x3_1
     replace p6 := eq_true p6
     replace q6 := eq_true q6
     go_wp2
     go_roundg k1
     case measure => have := HK1.out; omega
     case rel => exact ⟨(wrap64 (x3_1 + 1)), (by first | rfl | (simp; done) | (simp [*]; done)), H', ⟨by have := HK1.out; omega⟩, by repeat (first | exact aq_.refl _ | apply aq_.step)⟩
    rw [if_pos c7] at H
    have c7b0 : decide (126 < (bt a0 x3_1)) = true := decide_eq_true c7
    clear c7
    obtain rfl := Option.some.inj H
    have p4 : 0 ≤ (x3_1 : Int) := of_decide_eq_true (by assumption)
    have q4 : x3_1 < (a0.size : Int) := of_decide_eq_true (by assumption)
    have hx4 := bt_at a0 x3_1
    replace p4 := eq_true p4
    replace q4 := eq_true q4
    have p6 : 0 ≤ (x3_1 : Int) := of_decide_eq_true (by assumption)
    have q6 : x3_1 < (a0.size : Int) := of_decide_eq_true (by assumption)
    have hx6 := bt_at a0 x3_1
    replace p6 := eq_true p6
    replace q6 := eq_true q6
    go_wp2
    go_ret
    exact ⟨by first | rfl | (simp; done) | (simp [*]; done), by repeat (first | exact aq_.refl _ | apply aq_.step)⟩
   rw [if_pos c5] at H
   have c5b0 : decide ((bt a0 x3_1) < 32) = true := decide_eq_true c5
   clear c5
   obtain rfl := Option.some.inj H
   have p4 : 0 ≤ (x3_1 : Int) := of_decide_eq_true (by assumption)
   have q4 : x3_1 < (a0.size : Int) := of_decide_eq_true (by assumption)
   have hx4 := bt_at a0 x3_1
   replace p4 := eq_true p4
   replace q4 := eq_true q4
   go_wp2
   go_ret
   exact ⟨by first | rfl | (simp; done) | (simp [*]; done), by repeat (first | exact aq_.refl _ | apply aq_.step)⟩
def aW_.l0 : Nat → List (S78) → List (S78) → Int → Int → Option (Bool)
 | 0, _, _, _, _ => none
 | k + 1, x0, x5, x6, x7 => if x7 < x6 then (if 0 ≤ x7 then (if x7 < (x5.length : Int) then (if ((ar_ x5 x7).f0) = (wrap64 (x7 + 1)) then ((bx_.f ((ar_ x5 x7).f1) 0 x7).bind fun t103 => (if t103 = true then ((bm_.f k ((ar_ x5 x7).f2)).bind fun t104 => (if t104 = true then ((am_.f k ((ar_ x5 x7).f3)).bind fun t105 => (if t105 = true then (aW_.l0 k x0 x5 x6 (wrap64 (x7 + 1))) else (some false))) else (some false))) else (some false))) else (some false)) else (none)) else (none)) else (some (decide ((x0.length : Int) ≤ 16)))
def aW_.f (k : Nat) (l0 : List (S78)) : Option (Bool) := aW_.l0 k l0 l0 (l0.length : Int) 0
set_option maxHeartbeats 8000000 in
set_option maxRecDepth 100000 in
theorem aW_.calls (k : Nat) (A0 : Option Addr) (c0 : Nat) (l0 : List (S78)) (r : Bool) (w : World) (hr0 : Kd.C k78 w A0 l0.length l0) (hc0 : l0.length ≤ c0) (h : aW_.f k l0 = some r) :
  Calls Try.prog 78 #[.slice A0 l0.length c0] w fun e w' => e = .returned (.bool r) ∧ Below w.heap.size w w' := by
 have hu78 := Try.underlying78
 have HR0 := Aside0.mk hr0
 have HC0 := Aside0.mk hc0
 clear hr0 hc0
 have HB := Aside0.mk (Below.refl w.heap.size w)
 have H : (aW_.l0 k l0 l0 (l0.length : Int) 0) = some r := h
 clear h
 have H' := Aside0.mk H
 clear H
 go_enter Try.func78, Try.ntmps78
 go_wp2
 (try simp only [Act.put, lsa_, ls0_, ls1_])
 go_loopg [7] k (fun kq v7 w' => ∃ (x7_1 : Int), v7 = .int .i64 x7_1 ∧ Aside0 (aW_.l0 kq l0 l0 (l0.length : Int) x7_1 = some r) ∧ Aside0 (kq ≤ k) ∧ Aside0 (Below w.heap.size w w'))
 case atStart => exact ⟨(0), (by first | rfl | (simp; done) | (simp [*]; done)), H', ⟨Nat.le_refl _⟩, ⟨bz HB.out⟩⟩
 case round =>
  clear H'
  obtain ⟨x7_1, rfl, HA, HK1, HB⟩ := hrel
  cases gk with
  | zero => exact absurd HA.out (by simp [aW_.l0])
  | succ k1 =>
   have H := HA.out
   clear HA
   simp only [aW_.l0] at H
   by_cases c2 : x7_1 < (l0.length : Int)
   rotate_left
   ·rw [if_neg c2] at H
    have c2b0 : decide (x7_1 < (l0.length : Int)) = false := decide_eq_false c2
    clear c2
    obtain rfl := Option.some.inj H
    go_wp2
    go_ret
    exact ⟨by first | rfl | (simp [*, ao_, an_] <;> rfl), bz HB.out⟩
   rw [if_pos c2] at H
   have c2b0 : decide (x7_1 < (l0.length : Int)) = true := decide_eq_true c2
   clear c2
   by_cases c3 : 0 ≤ x7_1
   rotate_left
   ·rw [if_neg c3] at H
    exact absurd H (by simp)
   rw [if_pos c3] at H
   have c3b0 : decide (0 ≤ x7_1) = true := decide_eq_true c3
   clear c3
   by_cases c4 : x7_1 < (l0.length : Int)
   rotate_left
   ·rw [if_neg c4] at H
    exact absurd H (by simp)
   rw [if_pos c4] at H
   have c4b0 : decide (x7_1 < (l0.length : Int)) = true := decide_eq_true c4
   clear c4
   by_cases c5 : ((ar_ l0 x7_1).f0) = (wrap64 (x7_1 + 1))
   rotate_left
   ·rw [if_neg c5] at H
    have c5b0 : (((ar_ l0 x7_1).f0) == (wrap64 (x7_1 + 1))) = false := beq_eq_false_iff_ne.mpr c5
    have c5b1 : (((ar_ l0 x7_1).f0) != (wrap64 (x7_1 + 1))) = true := bne_iff_ne.mpr c5
    obtain rfl := Option.some.inj H
    have p101 : 0 ≤ (x7_1 : Int) := of_decide_eq_true (by assumption)
    have q101 : x7_1 < (l0.length : Int) := of_decide_eq_true (by assumption)
    obtain ⟨ad101, A101_3, c101_3, e101, hx101_0, hx101_1, hx101_2, hx101_3, hl101_3, hi101_3⟩ := dp_ HR0.out x7_1 p101 q101
    cases e101
    replace hx101_0 := bu_ HB.out hx101_0
    replace hx101_1 := bu_ HB.out hx101_1
    replace hx101_2 := bu_ HB.out hx101_2
    replace hx101_3 := bu_ HB.out hx101_3
    have HR101_3 := Aside0.mk hi101_3
    have HC101_3 := Aside0.mk hl101_3
    clear hi101_3 hl101_3
    replace p101 := eq_true p101
    replace q101 := eq_true q101
    go_wp2_with (first | ((with_reducible refine aH_ (N := 4) rfl ?_); refine by_ ?hg (N := 4) ?hd (cs := #[.int .i64 0, .int .i64 0, .string (⟨#[]⟩ : ByteArray), .slice none 0 0]) (t := 78) ?hr ?_; (case hd => rfl); (case hg => rfl); (case hr => (go_simp; try rfl)); intro gb102 hg w20 hbox hb; have BK102 := Aside0.mk (hbox); have GW102 := Aside0.mk ((by rw [hg]; exact (ae_ (bz HB.out)) : w.heap.size ≤ gb102)); have GE102 := GW102; replace HB := Aside0.mk (ac_ (bz HB.out) hb); clear hb hbox hg; obtain ⟨hcz21_0, hcz21_1, hcz21_2, hcz21_3⟩ := cz4_ BK102.out; obtain ⟨hfz21_0, hfz21_1, hfz21_2, hfz21_3⟩ := fz4_ BK102.out))
    go_ret
    exact ⟨by first | rfl | (simp [*, ao_, an_] <;> rfl), bq⟩
   rw [if_pos c5] at H
   have c5b0 : (((ar_ l0 x7_1).f0) == (wrap64 (x7_1 + 1))) = true := beq_iff_eq.mpr c5
   have c5b1 : (((ar_ l0 x7_1).f0) != (wrap64 (x7_1 + 1))) = false := bne_eq_false_iff_eq.mpr c5
   clear c5
   replace H := Option.bind_eq_some_iff.mp H
   obtain ⟨t103, A60, H⟩ := H
   (try dsimp only at H)
   have A6 := Aside0.mk A60
   clear A60
   by_cases c7 : t103 = true
   rotate_left
   ·replace c7 := Bool.eq_false_iff.mpr c7
    subst c7
    have H1 : (some false) = some r := by rw [if_neg (show ¬ (false = true) by decide)] at H; exact H
    clear H
    have H := H1
    clear H1
    obtain rfl := Option.some.inj H
    have p101 : 0 ≤ (x7_1 : Int) := of_decide_eq_true (by assumption)
    have q101 : x7_1 < (l0.length : Int) := of_decide_eq_true (by assumption)
    obtain ⟨ad101, A101_3, c101_3, e101, hx101_0, hx101_1, hx101_2, hx101_3, hl101_3, hi101_3⟩ := dp_ HR0.out x7_1 p101 q101
    cases e101
    replace hx101_0 := bu_ HB.out hx101_0
    replace hx101_1 := bu_ HB.out hx101_1
    replace hx101_2 := bu_ HB.out hx101_2
    replace hx101_3 := bu_ HB.out hx101_3
    have HR101_3 := Aside0.mk hi101_3
    have HC101_3 := Aside0.mk hl101_3
    clear hi101_3 hl101_3
    replace p101 := eq_true p101
    replace q101 := eq_true q101
    go_wp2_with (first | ((with_reducible refine aH_ (N := 4) rfl ?_); refine by_ ?hg (N := 4) ?hd (cs := #[.int .i64 0, .int .i64 0, .string (⟨#[]⟩ : ByteArray), .slice none 0 0]) (t := 78) ?hr ?_; (case hd => rfl); (case hg => rfl); (case hr => (go_simp; try rfl)); intro gb102 hg w18 hbox hb; have BK102 := Aside0.mk (hbox); have GW102 := Aside0.mk ((by rw [hg]; exact (ae_ (bz HB.out)) : w.heap.size ≤ gb102)); have GE102 := GW102; replace HB := Aside0.mk (ac_ (bz HB.out) hb); clear hb hbox hg; obtain ⟨hcz19_0, hcz19_1, hcz19_2, hcz19_3⟩ := cz4_ BK102.out; obtain ⟨hfz19_0, hfz19_1, hfz19_2, hfz19_3⟩ := fz4_ BK102.out) | (go_at_call 79; (with_reducible refine (bx_.calls ((ar_ l0 x7_1).f1) 0 x7_1 false _ A6.out).mono ?_); rintro e w' ⟨rfl, ⟨nd, rfl⟩⟩))
    go_ret
    exact ⟨by first | rfl | (simp [*, ao_, an_] <;> rfl), bq⟩
   subst c7
   have H1 : ((bm_.f k1 ((ar_ l0 x7_1).f2)).bind fun t104 => (if t104 = true then ((am_.f k1 ((ar_ l0 x7_1).f3)).bind fun t105 => (if t105 = true then (aW_.l0 k1 l0 l0 (l0.length : Int) (wrap64 (x7_1 + 1))) else (some false))) else (some false))) = some r := by rw [if_pos rfl] at H; exact H
   clear H
   have H := H1
   clear H1
   replace H := Option.bind_eq_some_iff.mp H
   obtain ⟨t104, A80, H⟩ := H
   (try dsimp only at H)
   have A8 := Aside0.mk A80
   clear A80
   by_cases c9 : t104 = true
   rotate_left
   ·replace c9 := Bool.eq_false_iff.mpr c9
    subst c9
    have H1 : (some false) = some r := by rw [if_neg (show ¬ (false = true) by decide)] at H; exact H
    clear H
    have H := H1
    clear H1
    obtain rfl := Option.some.inj H
    have p101 : 0 ≤ (x7_1 : Int) := of_decide_eq_true (by assumption)
    have q101 : x7_1 < (l0.length : Int) := of_decide_eq_true (by assumption)
    obtain ⟨ad101, A101_3, c101_3, e101, hx101_0, hx101_1, hx101_2, hx101_3, hl101_3, hi101_3⟩ := dp_ HR0.out x7_1 p101 q101
    cases e101
    replace hx101_0 := bu_ HB.out hx101_0
    replace hx101_1 := bu_ HB.out hx101_1
    replace hx101_2 := bu_ HB.out hx101_2
    replace hx101_3 := bu_ HB.out hx101_3
    have HR101_3 := Aside0.mk hi101_3
    have HC101_3 := Aside0.mk hl101_3
    clear hi101_3 hl101_3
    replace p101 := eq_true p101
    replace q101 := eq_true q101
    go_wp2_with (first | ((with_reducible refine aH_ (N := 4) rfl ?_); refine by_ ?hg (N := 4) ?hd (cs := #[.int .i64 0, .int .i64 0, .string (⟨#[]⟩ : ByteArray), .slice none 0 0]) (t := 78) ?hr ?_; (case hd => rfl); (case hg => rfl); (case hr => (go_simp; try rfl)); intro gb102 hg w16 hbox hb; have BK102 := Aside0.mk (hbox); have GW102 := Aside0.mk ((by rw [hg]; exact (ae_ (bz HB.out)) : w.heap.size ≤ gb102)); have GE102 := GW102; replace HB := Aside0.mk (ac_ (bz HB.out) hb); clear hb hbox hg; obtain ⟨hcz17_0, hcz17_1, hcz17_2, hcz17_3⟩ := cz4_ BK102.out; obtain ⟨hfz17_0, hfz17_1, hfz17_2, hfz17_3⟩ := fz4_ BK102.out) | (go_at_call 79; (with_reducible refine (bx_.calls ((ar_ l0 x7_1).f1) 0 x7_1 true _ A6.out).mono ?_); rintro e w' ⟨rfl, ⟨nd, rfl⟩⟩) | (go_at_call 54; (with_reducible refine (bm_.calls k1 ((ar_ l0 x7_1).f2) false _ A8.out).mono ?_); rintro e w' ⟨rfl, ⟨nd, rfl⟩⟩))
    go_ret
    exact ⟨by first | rfl | (simp [*, ao_, an_] <;> rfl), bq⟩
   subst c9
   have H1 : ((am_.f k1 ((ar_ l0 x7_1).f3)).bind fun t105 => (if t105 = true then (aW_.l0 k1 l0 l0 (l0.length : Int) (wrap64 (x7_1 + 1))) else (some false))) = some r := by rw [if_pos rfl] at H; exact H
   clear H
   have H := H1
   clear H1
   replace H := Option.bind_eq_some_iff.mp H
   obtain ⟨t105, A100, H⟩ := H
   (try dsimp only at H)
   have A10 := Aside0.mk A100
   clear A100
   have HC11 := Aside0.mk H
   clear H
   have p101 : 0 ≤ (x7_1 : Int) := of_decide_eq_true (by assumption)
   have q101 : x7_1 < (l0.length : Int) := of_decide_eq_true (by assumption)
   obtain ⟨ad101, A101_3, c101_3, e101, hx101_0, hx101_1, hx101_2, hx101_3, hl101_3, hi101_3⟩ := dp_ HR0.out x7_1 p101 q101
   cases e101
   replace hx101_0 := bu_ HB.out hx101_0
   replace hx101_1 := bu_ HB.out hx101_1
   replace hx101_2 := bu_ HB.out hx101_2
   replace hx101_3 := bu_ HB.out hx101_3
   have HR101_3 := Aside0.mk hi101_3
   have HC101_3 := Aside0.mk hl101_3
   clear hi101_3 hl101_3
   replace p101 := eq_true p101
   replace q101 := eq_true q101
   go_upto_if 35 with (first | ((with_reducible refine aH_ (N := 4) rfl ?_); refine by_ ?hg (N := 4) ?hd (cs := #[.int .i64 0, .int .i64 0, .string (⟨#[]⟩ : ByteArray), .slice none 0 0]) (t := 78) ?hr ?_; (case hd => rfl); (case hg => rfl); (case hr => (go_simp; try rfl)); intro gb102 hg w12 hbox hb; have BK102 := Aside0.mk (hbox); have GW102 := Aside0.mk ((by rw [hg]; exact (ae_ (bz HB.out)) : w.heap.size ≤ gb102)); have GE102 := GW102; replace HB := Aside0.mk (ac_ (bz HB.out) hb); clear hb hbox hg; obtain ⟨hcz13_0, hcz13_1, hcz13_2, hcz13_3⟩ := cz4_ BK102.out; obtain ⟨hfz13_0, hfz13_1, hfz13_2, hfz13_3⟩ := fz4_ BK102.out) | (go_at_call 79; (with_reducible refine (bx_.calls ((ar_ l0 x7_1).f1) 0 x7_1 true _ A6.out).mono ?_); rintro e w' ⟨rfl, ⟨nd, rfl⟩⟩) | (go_at_call 54; (with_reducible refine (bm_.calls k1 ((ar_ l0 x7_1).f2) true _ A8.out).mono ?_); rintro e w' ⟨rfl, ⟨nd, rfl⟩⟩) | (go_at_call 39; (with_reducible refine (am_.calls k1 _ _ ((ar_ l0 x7_1).f3) t105 _ ?side1 ?side2 A10.out).mono ?_); (case side1 => exact Kd.bM_ HR101_3.out (bq)); (case side2 => exact HC101_3.out); rintro e w14 ⟨rfl, hb⟩; replace BK102 := Aside0.mk (bb_ (g := gb102) (o := .cells #[.int .i64 ((ar_ l0 x7_1).f0), .int .i64 ((ar_ l0 x7_1).f1), .string ((ar_ l0 x7_1).f2), .slice A101_3 ((ar_ l0 x7_1).f3).length c101_3] 78 (0, 0)) (by exact kj4_3 (kj4_2 (kj4_1 (kj4_0 (kz BK102.out))))) hb); replace HB := Aside0.mk (ac_ (bq) hb); (try clear hb)))
   (try simp only [Act.put, lsa_, ls0_, ls1_])
   have H := HC11.out
   clear HC11
   by_cases c15 : t105 = true
   rotate_left
   ·replace c15 := Bool.eq_false_iff.mpr c15
    subst c15
    have H1 : (some false) = some r := by rw [if_neg (show ¬ (false = true) by decide)] at H; exact H
    clear H
    have H := H1
    clear H1
    obtain rfl := Option.some.inj H
    go_wp2
    go_ret
    exact ⟨by first | rfl | (simp [*, ao_, an_] <;> rfl), bq⟩
   subst c15
   have H1 : (aW_.l0 k1 l0 l0 (l0.length : Int) (wrap64 (x7_1 + 1))) = some r := by rw [if_pos rfl] at H; exact H
   clear H
   have H := H1
   clear H1
   have H' := Aside0.mk H
   clear H
   go_wp2
   go_roundg k1
   case measure => have := HK1.out; omega
   case rel => exact ⟨(wrap64 (x7_1 + 1)), (by first | rfl | (simp; done) | (simp [*]; done)), H', ⟨by have := HK1.out; omega⟩, ⟨bq⟩⟩
def aG_.l0 : Nat → List (S78) → List Int → Int → Int → Option (Int)
 | 0, _, _, _, _ => none
 | k + 1, x0, x10, x11, x12 => if x12 < x11 then (if 0 ≤ x12 then (if x12 < (x10.length : Int) then ((bx_.f (rd x10 x12) 1 (x0.length : Int)).bind fun t103 => (if t103 = true then (aG_.l0 k x0 x10 x11 (wrap64 (x12 + 1))) else (some 3))) else (none)) else (none)) else (some 0)
def aG_.f (k : Nat) (l0 : List (S78)) (l1 : List Int) : Option (Int) := (aW_.f k l0).bind fun t101 => (if t101 = true then (aG_.l0 k l0 l1 (l1.length : Int) 0) else (some 1))
set_option maxHeartbeats 8000000 in
set_option maxRecDepth 100000 in
theorem aG_.calls (k : Nat) (A0 : Option Addr) (c0 : Nat) (l0 : List (S78)) (A1 : Option Addr) (c1 : Nat) (l1 : List Int) (r : Int) (w : World) (hr0 : Kd.C k78 w A0 l0.length l0) (hc0 : l0.length ≤ c0) (hr1 : Kd.C (Kd.int .i64) w A1 l1.length l1) (hc1 : l1.length ≤ c1) (h : aG_.f k l0 l1 = some r) :
  Calls Try.prog 53 #[.slice A0 l0.length c0, .slice A1 l1.length c1] w fun e w' => e = .returned (.int .i64 r) ∧ Below w.heap.size w w' := by
 have HR0 := Aside0.mk hr0
 have HC0 := Aside0.mk hc0
 clear hr0 hc0
 have HR1 := Aside0.mk hr1
 have HC1 := Aside0.mk hc1
 clear hr1 hc1
 have HB := Aside0.mk (Below.refl w.heap.size w)
 have H : ((aW_.f k l0).bind fun t101 => (if t101 = true then (aG_.l0 k l0 l1 (l1.length : Int) 0) else (some 1))) = some r := h
 clear h
 replace H := Option.bind_eq_some_iff.mp H
 obtain ⟨t101, A30, H⟩ := H
 (try dsimp only at H)
 have A3 := Aside0.mk A30
 clear A30
 have HC4 := Aside0.mk H
 clear H
 go_enter Try.func53, Try.ntmps53
 go_upto_if 9 with (first | ((with_reducible refine ah_ (f := 78) rfl ?_); refine aN_ (some 8) rfl rfl Try.func78 (by kernel_rfl) rfl #[.slice A0 l0.length c0] rfl (by first | rfl | (simp only [lma_, lmc_, lmn_]; first | done | rfl)) ?_; (with_reducible refine (aW_.calls k _ _ l0 t101 _ ?side1 ?side2 A3.out).mono ?_); (case side1 => exact cz HR0.out); (case side2 => exact HC0.out); rintro e w5 ⟨rfl, hb⟩; refine ⟨_, rfl, ?_⟩; replace HB := Aside0.mk (ac_ (bz HB.out) hb); (try clear hb)))
 (try simp only [Act.put, lsa_, ls0_, ls1_])
 have H := HC4.out
 clear HC4
 by_cases c6 : t101 = true
 rotate_left
 ·replace c6 := Bool.eq_false_iff.mpr c6
  subst c6
  have H1 : (some 1) = some r := by rw [if_neg (show ¬ (false = true) by decide)] at H; exact H
  clear H
  have H := H1
  clear H1
  obtain rfl := Option.some.inj H
  go_wp2
  go_ret
  exact ⟨by first | rfl | (simp [*, ao_, an_] <;> rfl), bz HB.out⟩
 subst c6
 have H1 : (aG_.l0 k l0 l1 (l1.length : Int) 0) = some r := by rw [if_pos rfl] at H; exact H
 clear H
 have H := H1
 clear H1
 have H' := Aside0.mk H
 clear H
 go_wp2
 (try simp only [Act.put, lsa_, ls0_, ls1_])
 go_loopg [12] k (fun kq v12 w' => ∃ (x12_1 : Int), v12 = .int .i64 x12_1 ∧ Aside0 (aG_.l0 kq l0 l1 (l1.length : Int) x12_1 = some r) ∧ Aside0 (kq ≤ k) ∧ Aside0 (Below w.heap.size w w'))
 case atStart => exact ⟨(0), (by first | rfl | (simp; done) | (simp [*]; done)), H', ⟨Nat.le_refl _⟩, ⟨bz HB.out⟩⟩
 case round =>
  clear H'
  obtain ⟨x12_1, rfl, HA, HK1, HB⟩ := hrel
  cases gk with
  | zero => exact absurd HA.out (by simp [aG_.l0])
  | succ k1 =>
   have H := HA.out
   clear HA
   simp only [aG_.l0] at H
   by_cases c7 : x12_1 < (l1.length : Int)
   rotate_left
   ·rw [if_neg c7] at H
    have c7b0 : decide (x12_1 < (l1.length : Int)) = false := decide_eq_false c7
    clear c7
    (first | rw [c7b0] | (simp only [i64_w, i32_w]; rw [c7b0]) | (simp only [c7b1, Bool.not_true, Bool.not_false]) | (simp only [c7b0, Bool.not_true, Bool.not_false]) | skip)
    obtain rfl := Option.some.inj H
    go_wp2
    go_ret
    exact ⟨by first | rfl | (simp [*, ao_, an_] <;> rfl), bz HB.out⟩
   rw [if_pos c7] at H
   have c7b0 : decide (x12_1 < (l1.length : Int)) = true := decide_eq_true c7
   clear c7
   (first | rw [c7b0] | (simp only [i64_w, i32_w]; rw [c7b0]) | (simp only [c7b1, Bool.not_true, Bool.not_false]) | (simp only [c7b0, Bool.not_true, Bool.not_false]) | skip)
   by_cases c8 : 0 ≤ x12_1
   rotate_left
   ·rw [if_neg c8] at H
    exact absurd H (by simp)
   rw [if_pos c8] at H
   have c8b0 : decide (0 ≤ x12_1) = true := decide_eq_true c8
   clear c8
   by_cases c9 : x12_1 < (l1.length : Int)
   rotate_left
   ·rw [if_neg c9] at H
    exact absurd H (by simp)
   rw [if_pos c9] at H
   have c9b0 : decide (x12_1 < (l1.length : Int)) = true := decide_eq_true c9
   clear c9
   replace H := Option.bind_eq_some_iff.mp H
   obtain ⟨t103, A100, H⟩ := H
   (try dsimp only at H)
   have A10 := Aside0.mk A100
   clear A100
   have HC11 := Aside0.mk H
   clear H
   have p102 : 0 ≤ (x12_1 : Int) := of_decide_eq_true (by assumption)
   have q102 : x12_1 < (l1.length : Int) := of_decide_eq_true (by assumption)
   obtain ⟨ad102, e102, hx102_0⟩ := Kd.at_int HR1.out x12_1 p102 q102
   cases e102
   replace hx102_0 := bu_ HB.out hx102_0
   replace p102 := eq_true p102
   replace q102 := eq_true q102
   go_upto_if 20 with (first | ((with_reducible refine ah_ (f := 79) rfl ?_); refine aN_ (some 19) rfl rfl Try.func79 (by kernel_rfl) rfl #[.int .i64 (rd l1 x12_1), .int .i64 1, .int .i64 (l0.length : Int)] rfl (by first | rfl | (simp only [lma_, lmc_, lmn_]; first | done | rfl)) ?_; (with_reducible refine (bx_.calls (rd l1 x12_1) 1 (l0.length : Int) t103 _ A10.out).mono ?_); rintro e w' ⟨rfl, ⟨nd, rfl⟩⟩; refine ⟨_, rfl, ?_⟩; (try (rw [bL_ wr]; generalize hq_ : World.drewN wr _ = wr; replace HB := Aside0.mk (rqH hq_ HB.out); clear hq_))))
   (try simp only [Act.put, lsa_, ls0_, ls1_])
   have H := HC11.out
   clear HC11
   by_cases c12 : t103 = true
   rotate_left
   ·replace c12 := Bool.eq_false_iff.mpr c12
    subst c12
    have H1 : (some 3) = some r := by rw [if_neg (show ¬ (false = true) by decide)] at H; exact H
    clear H
    have H := H1
    clear H1
    obtain rfl := Option.some.inj H
    go_wp2
    go_ret
    exact ⟨by first | rfl | (simp [*, ao_, an_] <;> rfl), bz HB.out⟩
   subst c12
   have H1 : (aG_.l0 k1 l0 l1 (l1.length : Int) (wrap64 (x12_1 + 1))) = some r := by rw [if_pos rfl] at H; exact H
   clear H
   have H := H1
   clear H1
   have H' := Aside0.mk H
   clear H
   go_wp2
   go_roundg k1
   case measure => have := HK1.out; omega
   case rel => exact ⟨(wrap64 (x12_1 + 1)), (by first | rfl | (simp; done) | (simp [*]; done)), H', ⟨by have := HK1.out; omega⟩, ⟨bz HB.out⟩⟩
def cy_.f (l0 : List (S78)) (a1 : Int) : Option ((List (S63))) := if a1 = 0 then (some ([] : List (S63))) else (if 0 ≤ (wrap64 (a1 - 1)) then (if (wrap64 (a1 - 1)) < (l0.length : Int) then (some ((ar_ l0 (wrap64 (a1 - 1))).f3)) else (none)) else (none))
set_option maxHeartbeats 8000000 in
set_option maxRecDepth 100000 in
theorem cy_.calls (P0_ : Nat → Prop) (A0 : Option Addr) (c0 : Nat) (l0 : List (S78)) (a1 : Int) (r : List (S63)) (w : World) (hs0 : Kd.V k78 78 w w.heap.size (fun k_ => P0_ k_) (.slice A0 l0.length c0) l0) (h : cy_.f l0 a1 = some r) :
  Calls Try.prog 55 #[.slice A0 l0.length c0, .int .i64 a1] w fun e w' => ∃ v0_ : Value, e = .returned (v0_) ∧ Kd.V k63 63 w' w.heap.size (fun k_ => (P0_ k_ ∨ w.heap.size ≤ k_)) v0_ r ∧ Below w.heap.size w w' := by
 have HO0 := Aside0.mk (show Kd.V k78 78 w w.heap.size (fun k_ => (P0_ k_ ∨ w.heap.size ≤ k_)) (.slice A0 l0.length c0) l0 from Kd.aJ_ hs0 (fun k_ hk => .inl hk))
 have HB := Aside0.mk (Below.refl w.heap.size w)
 have H : (if a1 = 0 then (some ([] : List (S63))) else (if 0 ≤ (wrap64 (a1 - 1)) then (if (wrap64 (a1 - 1)) < (l0.length : Int) then (some ((ar_ l0 (wrap64 (a1 - 1))).f3)) else (none)) else (none))) = some r := h
 clear h
 by_cases c3 : a1 = 0
 rotate_left
 ·rw [if_neg c3] at H
  have c3b0 : (a1 == 0) = false := beq_eq_false_iff_ne.mpr c3
  have c3b1 : (a1 != 0) = true := bne_iff_ne.mpr c3
  obtain ⟨ji4, hji4⟩ : ∃ j_ : Int, (wrap64 (a1 - 1)) = j_ := ⟨_, rfl⟩
  replace H : (if 0 ≤ (ji4) then (if (ji4) < (l0.length : Int) then (some ((ar_ l0 (ji4)).f3)) else (none)) else (none)) = some r := by first | (rw [hji4] at H; exact H) | (simp only [hji4] at H ⊢; exact H)
  have hji4w : (IntKind.i64.wrap (a1 - 1)) = ji4 := (i64_w _).trans hji4
  by_cases c5 : 0 ≤ (ji4)
  rotate_left
  ·rw [if_neg c5] at H
   exact absurd H (by simp)
  rw [if_pos c5] at H
  have c5b0 : decide (0 ≤ (ji4)) = true := decide_eq_true c5
  clear c5
  by_cases c6 : (ji4) < (l0.length : Int)
  rotate_left
  ·rw [if_neg c6] at H
   exact absurd H (by simp)
  rw [if_pos c6] at H
  have c6b0 : decide ((ji4) < (l0.length : Int)) = true := decide_eq_true c6
  clear c6
  obtain rfl := Option.some.inj H
  have p101 : 0 ≤ ((ji4) : Int) := of_decide_eq_true (by assumption)
  have q101 : (ji4) < (l0.length : Int) := of_decide_eq_true (by assumption)
  obtain ⟨ad101, A101_3, c101_3, e101, hx101_0, hx101_1, hx101_2, hx101_3, hl101_3, hi101_3⟩ := dp_ (Kd.bz_ HO0.out).2.2 (ji4) p101 q101
  cases e101
  obtain ⟨ce101, hce101, hMe101, hcc101⟩ := Kd.V_get HO0.out z78 (ji4) p101 (by first | exact q101 | exact of_decide_eq_true (by assumption) | (have e_ := (Kd.bz_ HO0.out).1; omega))
  obtain ⟨ua101_3, uc101_3, rfl, ul101_3, ge101_3⟩ := k78_openF hMe101
  have hv101_3 := hcc101 3 _ rfl
  rw [cS_ _ _ 3 (by omega)] at hv101_3
  replace hv101_3 := Option.some.inj (hv101_3.symm.trans hx101_3)
  injection hv101_3 with hva_ hvn_ hvc_
  rw [hva_] at ge101_3
  rw [hvc_] at ul101_3
  have HL101_3 := Aside0.mk (show Kd.V k63 63 _ w.heap.size _ _ ((ar_ l0 (ji4)).f3) from Kd.V_mk ul101_3 ge101_3)
  clear hva_ hvn_ hvc_ ge101_3 ul101_3
  clear hcc101 hce101
  have HR101_3 := Aside0.mk hi101_3
  have HC101_3 := Aside0.mk hl101_3
  clear hi101_3 hl101_3
  replace p101 := eq_true p101
  replace q101 := eq_true q101
  go_enter Try.func55, Try.ntmps55
  go_wp2
  go_ret
  exact ⟨_, by first | rfl | (simp [ao_, an_] <;> rfl) | (simp only [← hji4]; first | rfl | (simp [ao_, an_] <;> rfl)) | (simp [*, ao_, an_] <;> rfl), vz HL101_3.out, bz HB.out⟩
 rw [if_pos c3] at H
 have c3b0 : (a1 == 0) = true := beq_iff_eq.mpr c3
 have c3b1 : (a1 != 0) = false := bne_eq_false_iff_eq.mpr c3
 clear c3
 obtain rfl := Option.some.inj H
 go_enter Try.func55, Try.ntmps55
 go_wp2
 go_ret
 exact ⟨_, by first | rfl | (simp [*, ao_, an_] <;> rfl), Kd.V_nil _ _ _ _ _, bz HB.out⟩
def bE_.l0 : Nat → List (S78) → List Int → Int → Option (List Int)
 | 0, _, _, _ => none
 | k + 1, x0, x5, x6 => if x6 > 0 then (if x5.length < 17592186044416 then (if 0 ≤ (wrap64 (x6 - 1)) then (if (wrap64 (x6 - 1)) < (x0.length : Int) then (bE_.l0 k x0 (x5 ++ [x6]) ((ar_ x0 (wrap64 (x6 - 1))).f1)) else (none)) else (none)) else (none)) else (some x5)
def bE_.f (k : Nat) (l0 : List (S78)) (a1 : Int) : Option (List Int) := if 0 ≤ (wrap64 (a1 - 1)) then (if (wrap64 (a1 - 1)) < (l0.length : Int) then (bE_.l0 k l0 (([] : List Int)) ((ar_ l0 (wrap64 (a1 - 1))).f1)) else (none)) else (none)
set_option maxHeartbeats 8000000 in
set_option maxRecDepth 100000 in
theorem bE_.calls (k : Nat) (A0 : Option Addr) (c0 : Nat) (l0 : List (S78)) (a1 : Int) (r : List Int) (w : World) (hr0 : Kd.C k78 w A0 l0.length l0) (hc0 : l0.length ≤ c0) (h : bE_.f k l0 a1 = some r) :
  Calls Try.prog 80 #[.slice A0 l0.length c0, .int .i64 a1] w fun e w' => ∃ v0_ : Value, e = .returned (v0_) ∧ Kd.R (Kd.int .i64) 2 w' w.heap.size (fun _ => True) v0_ r ∧ Below w.heap.size w w' := by
 have HR0 := Aside0.mk hr0
 have HC0 := Aside0.mk hc0
 clear hr0 hc0
 have HB := Aside0.mk (Below.refl w.heap.size w)
 have H : (if 0 ≤ (wrap64 (a1 - 1)) then (if (wrap64 (a1 - 1)) < (l0.length : Int) then (bE_.l0 k l0 (([] : List Int)) ((ar_ l0 (wrap64 (a1 - 1))).f1)) else (none)) else (none)) = some r := h
 clear h
 obtain ⟨y101, hy101⟩ : ∃ y_ : List Int, y_ = (([] : List Int)) := ⟨_, rfl⟩
 replace H : (if 0 ≤ (wrap64 (a1 - 1)) then (if (wrap64 (a1 - 1)) < (l0.length : Int) then (bE_.l0 k l0 y101 ((ar_ l0 (wrap64 (a1 - 1))).f1)) else (none)) else (none)) = some r := by first | (rw [hy101]; with_reducible exact H) | (have H2_ := (Option.bind_some _ _).symm.trans H; rw [hy101]; with_reducible exact H2_) | (have H2_ := (Option.bind_some _ _).symm.trans H; with_reducible exact H2_) | with_reducible exact H | (rw [hy101]; exact H) | exact H
 have Ny101 := Aside0.mk hy101
 clear hy101
 obtain ⟨ji3, hji3⟩ : ∃ j_ : Int, (wrap64 (a1 - 1)) = j_ := ⟨_, rfl⟩
 replace H : (if 0 ≤ (ji3) then (if (ji3) < (l0.length : Int) then (bE_.l0 k l0 y101 ((ar_ l0 (ji3)).f1)) else (none)) else (none)) = some r := by first | (rw [hji3] at H; exact H) | (simp only [hji3] at H ⊢; exact H)
 have hji3w : (IntKind.i64.wrap (a1 - 1)) = ji3 := (i64_w _).trans hji3
 by_cases c4 : 0 ≤ (ji3)
 rotate_left
 ·rw [if_neg c4] at H
  exact absurd H (by simp)
 rw [if_pos c4] at H
 have c4b0 : decide (0 ≤ (ji3)) = true := decide_eq_true c4
 clear c4
 by_cases c5 : (ji3) < (l0.length : Int)
 rotate_left
 ·rw [if_neg c5] at H
  exact absurd H (by simp)
 rw [if_pos c5] at H
 have c5b0 : decide ((ji3) < (l0.length : Int)) = true := decide_eq_true c5
 clear c5
 have H' := Aside0.mk H
 clear H
 go_enter Try.func80, Try.ntmps80
 go_wp2_with (first | ((with_reducible refine aH_ (N := 7) rfl ?_); refine Kd.R_lit (Kd.int .i64) _ 2 ?hg (N := 7) ?hd (xs := ([] : List Int)) (inner := []) (ok := fun _ => True) (okp := fun _ => True) ?hr ?hp (fun _ hk => hk) trivial (Below.refl _ _) (Nat.le_refl _) (by simp) ?_; (case hd => rfl); (case hg => rfl); (case hr => (go_simp; try rfl)); (case hp => exact (Reps.none _ _)); intro v102 w6 ho7 hb hg_ hnew_; clear hg_ hnew_; (first | rw [← Ny101.out] at ho7 | (simp only [Int.reduceToNat] at ho7; rw [← Ny101.out] at ho7)); have HO103 := Aside0.mk (Kd.bt_ ho7 (ae_ (bz HB.out))); replace HB := Aside0.mk (ac_ (bz HB.out) hb); clear hb ho7; have p104 : 0 ≤ ((ji3) : Int) := of_decide_eq_true (by assumption); have q104 : (ji3) < (l0.length : Int) := of_decide_eq_true (by assumption); obtain ⟨ad104, A104_3, c104_3, e104, hx104_0, hx104_1, hx104_2, hx104_3, hl104_3, hi104_3⟩ := dp_ HR0.out (ji3) p104 q104; cases e104; replace hx104_0 := bu_ HB.out hx104_0; replace hx104_1 := bu_ HB.out hx104_1; replace hx104_2 := bu_ HB.out hx104_2; replace hx104_3 := bu_ HB.out hx104_3; have HR104_3 := Aside0.mk hi104_3; have HC104_3 := Aside0.mk hl104_3; clear hi104_3 hl104_3; replace p104 := eq_true p104; replace q104 := eq_true q104))
 (try simp only [Act.put, lsa_, ls0_, ls1_])
 go_loopg [5, 6] k (fun kq v5 v6 w' => ∃ (x5_1 : List Int) (x6_1 : Int), v6 = .int .i64 x6_1 ∧ Aside0 (bE_.l0 kq l0 x5_1 x6_1 = some r) ∧ Aside0 (kq ≤ k) ∧ Aside0 (Kd.R (Kd.int .i64) 2 w' w.heap.size (fun _ => True) v5 x5_1) ∧ Aside0 (Below w.heap.size w w'))
 case atStart => exact ⟨(y101), ((ar_ l0 (ji3)).f1), (by first | rfl | (simp; done) | (simp only [← hji3] <;> (first | rfl | simp)) | (simp [*]; done)), H', ⟨Nat.le_refl _⟩, ⟨rz HO103.out⟩, ⟨bz HB.out⟩⟩
 case round =>
  clear H'
  obtain ⟨x5_1, x6_1, rfl, HA, HK1, HO_5, HB⟩ := hrel
  cases gk with
  | zero => exact absurd HA.out (by simp [bE_.l0])
  | succ k1 =>
   have H := HA.out
   clear HA
   simp only [bE_.l0] at H
   by_cases c8 : x6_1 > 0
   rotate_left
   ·rw [if_neg c8] at H
    have c8b0 : decide (0 < x6_1) = false := decide_eq_false c8
    clear c8
    obtain rfl := Option.some.inj H
    go_wp2
    go_ret
    exact ⟨_, by first | rfl | (simp [ao_, an_] <;> rfl) | (simp only [← hji3]; first | rfl | (simp [ao_, an_] <;> rfl)) | (simp [*, ao_, an_] <;> rfl), rz HO_5.out, bz HB.out⟩
   rw [if_pos c8] at H
   have c8b0 : decide (0 < x6_1) = true := decide_eq_true c8
   clear c8
   by_cases c9 : x5_1.length < 17592186044416
   rotate_left
   ·rw [if_neg c9] at H
    exact absurd H (by simp)
   rw [if_pos c9] at H
   have LMc9 := Aside0.mk c9
   clear c9
   obtain ⟨y105, hy105⟩ : ∃ y_ : List Int, y_ = (x5_1 ++ [x6_1]) := ⟨_, rfl⟩
   replace H : (if 0 ≤ (wrap64 (x6_1 - 1)) then (if (wrap64 (x6_1 - 1)) < (l0.length : Int) then (bE_.l0 k1 l0 y105 ((ar_ l0 (wrap64 (x6_1 - 1))).f1)) else (none)) else (none)) = some r := by first | (rw [hy105]; with_reducible exact H) | (have H2_ := (Option.bind_some _ _).symm.trans H; rw [hy105]; with_reducible exact H2_) | (have H2_ := (Option.bind_some _ _).symm.trans H; with_reducible exact H2_) | with_reducible exact H | (rw [hy105]; exact H) | exact H
   have Ny105 := Aside0.mk hy105
   clear hy105
   obtain ⟨ji10, hji10⟩ : ∃ j_ : Int, (wrap64 (x6_1 - 1)) = j_ := ⟨_, rfl⟩
   replace H : (if 0 ≤ (ji10) then (if (ji10) < (l0.length : Int) then (bE_.l0 k1 l0 y105 ((ar_ l0 (ji10)).f1)) else (none)) else (none)) = some r := by first | (rw [hji10] at H; exact H) | (simp only [hji10] at H ⊢; exact H)
   have hji10w : (IntKind.i64.wrap (x6_1 - 1)) = ji10 := (i64_w _).trans hji10
   by_cases c11 : 0 ≤ (ji10)
   rotate_left
   ·rw [if_neg c11] at H
    exact absurd H (by simp)
   rw [if_pos c11] at H
   have c11b0 : decide (0 ≤ (ji10)) = true := decide_eq_true c11
   clear c11
   by_cases c12 : (ji10) < (l0.length : Int)
   rotate_left
   ·rw [if_neg c12] at H
    exact absurd H (by simp)
   rw [if_pos c12] at H
   have c12b0 : decide ((ji10) < (l0.length : Int)) = true := decide_eq_true c12
   clear c12
   have H' := Aside0.mk H
   clear H
   go_wp2_with (first | ((with_reducible refine be_ (b := .append) (xs := #[.tmp 22, .tmp 24]) rfl ?_); at_builtin; refine Kd.cw_ (Kd.int .i64) (w0 := w) w.heap.size rfl (.tmp 22) (.tmp 24) 100 2 (.int .i64 0) 8 rfl Try.underlying100 info2 rfl (by decide) (by omega) u5 x5_1 x6_1 [.int .i64 x6_1] (fun _ => True) (fun _ => False) rfl rfl ?aP (fun _ hk => hk.elim) ?aF ?aO ?aB ?aS ?aL ?_; (case aP => exact rfl); (case aB => exact (bz HB.out)); (case aF => exact (fun _ _ => trivial)); (case aO => exact (rz HO_5.out)); (case aS => exact (ae_ (bz HB.out))); (case aL => have := LMc9.out; omega); intro v106 w13 ho hb hg hat; rw [← Ny105.out] at ho; replace HB := Aside0.mk (hb); have HO107 := Aside0.mk (ho); clear HO_5; clear ho hb hg hat; have p108 : 0 ≤ ((ji10) : Int) := of_decide_eq_true (by assumption); have q108 : (ji10) < (l0.length : Int) := of_decide_eq_true (by assumption); obtain ⟨ad108, A108_3, c108_3, e108, hx108_0, hx108_1, hx108_2, hx108_3, hl108_3, hi108_3⟩ := dp_ HR0.out (ji10) p108 q108; obtain rfl : ad104 = ad108 := (by injection e108); replace hx108_0 := bu_ HB.out hx108_0; replace hx108_1 := bu_ HB.out hx108_1; replace hx108_2 := bu_ HB.out hx108_2; replace hx108_3 := bu_ HB.out hx108_3; have HR108_3 := Aside0.mk hi108_3; have HC108_3 := Aside0.mk hl108_3; clear hi108_3 hl108_3; replace p108 := eq_true p108; replace q108 := eq_true q108))
   go_roundg k1
   case measure => have := HK1.out; omega
   case rel => exact ⟨(y105), ((ar_ l0 (ji10)).f1), (by first | rfl | (simp; done) | (simp only [← hji10] <;> (first | rfl | simp)) | (simp [*]; done)), H', ⟨by have := HK1.out; omega⟩, ⟨rz HO107.out⟩, ⟨bz HB.out⟩⟩
def aS_.l0 : Nat → List Int → Int → Int → Int → Option (Int)
 | 0, _, _, _, _ => none
 | k + 1, x0, x1, x7, x8 => if x8 < x7 then (if 0 ≤ x8 then (if x8 < (x0.length : Int) then (if x1 = (rd x0 x8) then (some x8) else (aS_.l0 k x0 x1 x7 (wrap64 (x8 + 1)))) else (none)) else (none)) else (some (-1))
def aS_.f (k : Nat) (l0 : List Int) (a1 : Int) : Option (Int) := aS_.l0 k l0 a1 (l0.length : Int) 0
set_option maxHeartbeats 8000000 in
set_option maxRecDepth 100000 in
theorem aS_.calls (k : Nat) (A0 : Option Addr) (c0 : Nat) (l0 : List Int) (a1 : Int) (r : Int) (w : World) (hr0 : Kd.C (Kd.int .i64) w A0 l0.length l0) (hc0 : l0.length ≤ c0) (h : aS_.f k l0 a1 = some r) :
  Calls Try.prog 99 #[.slice A0 l0.length c0, .int .i64 a1] w fun e w' => e = .returned (.int .i64 r) ∧ aq_ w w' := by
 have HR0 := Aside0.mk hr0
 have HC0 := Aside0.mk hc0
 clear hr0 hc0
 have H : (aS_.l0 k l0 a1 (l0.length : Int) 0) = some r := h
 clear h
 have H' := Aside0.mk H
 clear H
 go_enter Try.func99, Try.ntmps99
 go_wp2
 (try simp only [Act.put, lsa_, ls0_, ls1_])
 go_loopg [8] k (fun kq v8 w' => ∃ (x8_1 : Int), v8 = .int .i64 x8_1 ∧ Aside0 (aS_.l0 kq l0 a1 (l0.length : Int) x8_1 = some r) ∧ Aside0 (kq ≤ k) ∧ aq_ w w')
 case atStart => exact ⟨(0), (by first | rfl | (simp; done) | (simp [*]; done)), H', ⟨Nat.le_refl _⟩, by repeat (first | exact aq_.refl _ | apply aq_.step)⟩
 case round =>
  clear H'
  obtain ⟨x8_1, rfl, HA, HK1, ⟨m1, rfl⟩⟩ := hrel
  cases gk with
  | zero => exact absurd HA.out (by simp [aS_.l0])
  | succ k1 =>
   have H := HA.out
   clear HA
   simp only [aS_.l0] at H
   by_cases c3 : x8_1 < (l0.length : Int)
   rotate_left
   ·rw [if_neg c3] at H
    have c3b0 : decide (x8_1 < (l0.length : Int)) = false := decide_eq_false c3
    clear c3
    obtain rfl := Option.some.inj H
    go_wp2
    go_ret
    exact ⟨by first | rfl | (simp; done) | (simp [*]; done), by repeat (first | exact aq_.refl _ | apply aq_.step)⟩
   rw [if_pos c3] at H
   have c3b0 : decide (x8_1 < (l0.length : Int)) = true := decide_eq_true c3
   clear c3
   by_cases c4 : 0 ≤ x8_1
   rotate_left
   ·rw [if_neg c4] at H
    exact absurd H (by simp)
   rw [if_pos c4] at H
   have c4b0 : decide (0 ≤ x8_1) = true := decide_eq_true c4
   clear c4
   by_cases c5 : x8_1 < (l0.length : Int)
   rotate_left
   ·rw [if_neg c5] at H
    exact absurd H (by simp)
   rw [if_pos c5] at H
   have c5b0 : decide (x8_1 < (l0.length : Int)) = true := decide_eq_true c5
   clear c5
   by_cases c6 : a1 = (rd l0 x8_1)
   rotate_left
   ·rw [if_neg c6] at H
    have c6b0 : (a1 == (rd l0 x8_1)) = false := beq_eq_false_iff_ne.mpr c6
    have c6b1 : (a1 != (rd l0 x8_1)) = true := bne_iff_ne.mpr c6
    have H' := Aside0.mk H
    clear H
    have p101 : 0 ≤ (x8_1 : Int) := of_decide_eq_true (by assumption)
    have q101 : x8_1 < (l0.length : Int) := of_decide_eq_true (by assumption)
    obtain ⟨ad101, e101, hx101_0⟩ := Kd.at_int HR0.out x8_1 p101 q101
    cases e101
    replace p101 := eq_true p101
    replace q101 := eq_true q101
    go_wp2
    go_roundg k1
    case measure => have := HK1.out; omega
    case rel => exact ⟨(wrap64 (x8_1 + 1)), (by first | rfl | (simp; done) | (simp [*]; done)), H', ⟨by have := HK1.out; omega⟩, by repeat (first | exact aq_.refl _ | apply aq_.step)⟩
   rw [if_pos c6] at H
   have c6b0 : (a1 == (rd l0 x8_1)) = true := beq_iff_eq.mpr c6
   have c6b1 : (a1 != (rd l0 x8_1)) = false := bne_eq_false_iff_eq.mpr c6
   clear c6
   obtain rfl := Option.some.inj H
   have p101 : 0 ≤ (x8_1 : Int) := of_decide_eq_true (by assumption)
   have q101 : x8_1 < (l0.length : Int) := of_decide_eq_true (by assumption)
   obtain ⟨ad101, e101, hx101_0⟩ := Kd.at_int HR0.out x8_1 p101 q101
   cases e101
   replace p101 := eq_true p101
   replace q101 := eq_true q101
   go_wp2
   go_ret
   exact ⟨by first | rfl | (simp; done) | (simp [*]; done), by repeat (first | exact aq_.refl _ | apply aq_.step)⟩
def bP_.f (k : Nat) (l0 : List Int) (a1 : Int) : Option (Bool) := (aS_.f k l0 a1).bind fun t101 => (some (decide (t101 ≥ 0)))
set_option maxHeartbeats 8000000 in
set_option maxRecDepth 100000 in
theorem bP_.calls (k : Nat) (A0 : Option Addr) (c0 : Nat) (l0 : List Int) (a1 : Int) (r : Bool) (w : World) (hr0 : Kd.C (Kd.int .i64) w A0 l0.length l0) (hc0 : l0.length ≤ c0) (h : bP_.f k l0 a1 = some r) :
  Calls Try.prog 81 #[.slice A0 l0.length c0, .int .i64 a1] w fun e w' => e = .returned (.bool r) ∧ aq_ w w' := by
 have HR0 := Aside0.mk hr0
 have HC0 := Aside0.mk hc0
 clear hr0 hc0
 have H : ((aS_.f k l0 a1).bind fun t101 => (some (decide (t101 ≥ 0)))) = some r := h
 clear h
 replace H := Option.bind_eq_some_iff.mp H
 obtain ⟨t101, A30, H⟩ := H
 (try dsimp only at H)
 have A3 := Aside0.mk A30
 clear A30
 obtain rfl := Option.some.inj H
 go_enter Try.func81, Try.ntmps81
 go_wp2_with (first | ((with_reducible refine ah_ (f := 99) rfl ?_); refine aN_ (some 7) rfl rfl Try.func99 (by kernel_rfl) rfl #[.slice A0 l0.length c0, .int .i64 a1] rfl (by first | rfl | (simp only [lma_, lmc_, lmn_]; first | done | rfl)) ?_; (with_reducible refine (aS_.calls k _ _ l0 a1 t101 _ ?side1 ?side2 A3.out).mono ?_); (case side1 => exact cz HR0.out); (case side2 => exact HC0.out); rintro e w' ⟨rfl, ⟨nd, rfl⟩⟩; refine ⟨_, rfl, ?_⟩))
 go_ret
 exact ⟨by first | rfl | (simp; done) | (simp [*]; done), by repeat (first | exact aq_.refl _ | apply aq_.step)⟩
def aF_.l0 : Nat → List (S78) → List Int → Int → Option (Int)
 | 0, _, _, _ => none
 | k + 1, x0, x7, x8 => if x8 > 0 then ((bP_.f k x7 x8).bind fun t107 => (if t107 = true then (some x8) else (if 0 ≤ (wrap64 (x8 - 1)) then (if (wrap64 (x8 - 1)) < (x0.length : Int) then (aF_.l0 k x0 x7 ((ar_ x0 (wrap64 (x8 - 1))).f1)) else (none)) else (none)))) else (some 0)
def aF_.f (k : Nat) (l0 : List (S78)) (a1 : Int) (a2 : Int) : Option (Int) := (bE_.f k l0 a2).bind fun t101 => (if t101.length < 17592186044416 then (aF_.l0 k l0 (t101 ++ [a2]) a1) else (none))
set_option maxHeartbeats 8000000 in
set_option maxRecDepth 100000 in
theorem aF_.calls (k : Nat) (A0 : Option Addr) (c0 : Nat) (l0 : List (S78)) (a1 : Int) (a2 : Int) (r : Int) (w : World) (hr0 : Kd.C k78 w A0 l0.length l0) (hc0 : l0.length ≤ c0) (h : aF_.f k l0 a1 a2 = some r) :
  Calls Try.prog 56 #[.slice A0 l0.length c0, .int .i64 a1, .int .i64 a2] w fun e w' => e = .returned (.int .i64 r) ∧ Below w.heap.size w w' := by
 have HR0 := Aside0.mk hr0
 have HC0 := Aside0.mk hc0
 clear hr0 hc0
 have HB := Aside0.mk (Below.refl w.heap.size w)
 have H : ((bE_.f k l0 a2).bind fun t101 => (if t101.length < 17592186044416 then (aF_.l0 k l0 (t101 ++ [a2]) a1) else (none))) = some r := h
 clear h
 replace H := Option.bind_eq_some_iff.mp H
 obtain ⟨t101, A40, H⟩ := H
 (try dsimp only at H)
 have A4 := Aside0.mk A40
 clear A40
 by_cases c5 : t101.length < 17592186044416
 rotate_left
 ·rw [if_neg c5] at H
  exact absurd H (by simp)
 rw [if_pos c5] at H
 have LMc5 := Aside0.mk c5
 clear c5
 obtain ⟨y104, hy104⟩ : ∃ y_ : List Int, y_ = (t101 ++ [a2]) := ⟨_, rfl⟩
 replace H : (aF_.l0 k l0 y104 a1) = some r := by first | (rw [hy104]; with_reducible exact H) | (have H2_ := (Option.bind_some _ _).symm.trans H; rw [hy104]; with_reducible exact H2_) | (have H2_ := (Option.bind_some _ _).symm.trans H; with_reducible exact H2_) | with_reducible exact H | (rw [hy104]; exact H) | exact H
 have Ny104 := Aside0.mk hy104
 clear hy104
 have H' := Aside0.mk H
 clear H
 go_enter Try.func56, Try.ntmps56
 go_wp2_with (first | ((with_reducible refine ah_ (f := 80) rfl ?_); refine aN_ (some 11) rfl rfl Try.func80 (by kernel_rfl) rfl #[.slice A0 l0.length c0, .int .i64 a2] rfl (by first | rfl | (simp only [lma_, lmc_, lmn_]; first | done | rfl)) ?_; (with_reducible refine (bE_.calls k _ _ l0 a2 t101 _ ?side1 ?side2 A4.out).mono ?_); (case side1 => exact cz HR0.out); (case side2 => exact HC0.out); rintro e w6 ⟨v102, rfl, ho0, hb⟩; refine ⟨_, rfl, ?_⟩; have HO103 := Aside0.mk (Kd.bt_ ho0 (ae_ (bz HB.out))); replace HB := Aside0.mk (ac_ (bz HB.out) hb); (try clear hb); (try clear ho0)) | ((with_reducible refine be_ (b := .append) (xs := #[.tmp 11, .tmp 13]) rfl ?_); at_builtin; refine Kd.cw_ (Kd.int .i64) (w0 := w) w.heap.size rfl (.tmp 11) (.tmp 13) 100 2 (.int .i64 0) 8 rfl Try.underlying100 info2 rfl (by decide) (by omega) v102 t101 a2 [.int .i64 a2] (fun _ => True) (fun _ => False) rfl rfl ?aP (fun _ hk => hk.elim) ?aF ?aO ?aB ?aS ?aL ?_; (case aP => exact rfl); (case aB => exact (bz HB.out)); (case aF => exact (fun _ _ => trivial)); (case aO => exact (rz HO103.out)); (case aS => exact (ae_ (bz HB.out))); (case aL => have := LMc5.out; omega); intro v105 w7 ho hb hg hat; rw [← Ny104.out] at ho; replace HB := Aside0.mk (hb); have HO106 := Aside0.mk (ho); clear HO103; clear ho hb hg hat))
 (try simp only [Act.put, lsa_, ls0_, ls1_])
 go_loopg [8] k (fun kq v8 w' => ∃ (x8_1 : Int), v8 = .int .i64 x8_1 ∧ Aside0 (aF_.l0 kq l0 y104 x8_1 = some r) ∧ Aside0 (kq ≤ k) ∧ Aside0 (Kd.R (Kd.int .i64) 2 w' w.heap.size (fun _ => True) v105 y104) ∧ Aside0 (Below w.heap.size w w'))
 case atStart => exact ⟨(a1), (by first | rfl | (simp; done) | (simp [*]; done)), H', ⟨Nat.le_refl _⟩, ⟨rz HO106.out⟩, ⟨bz HB.out⟩⟩
 case round =>
  clear H'
  obtain ⟨x8_1, rfl, HA, HK1, HO_7, HB⟩ := hrel
  cases gk with
  | zero => exact absurd HA.out (by simp [aF_.l0])
  | succ k1 =>
   have H := HA.out
   clear HA
   simp only [aF_.l0] at H
   by_cases c8 : x8_1 > 0
   rotate_left
   ·rw [if_neg c8] at H
    have c8b0 : decide (0 < x8_1) = false := decide_eq_false c8
    clear c8
    obtain rfl := Option.some.inj H
    go_wp2
    go_ret
    exact ⟨by first | rfl | (simp [*, ao_, an_] <;> rfl), bz HB.out⟩
   rw [if_pos c8] at H
   have c8b0 : decide (0 < x8_1) = true := decide_eq_true c8
   clear c8
   replace H := Option.bind_eq_some_iff.mp H
   obtain ⟨t107, A90, H⟩ := H
   (try dsimp only at H)
   have A9 := Aside0.mk A90
   clear A90
   have HC10 := Aside0.mk H
   clear H
   obtain ⟨Ao11, co11, eo11⟩ := Kd.bn_ HO_7.out
   subst eo11
   go_upto_if 26 with (first | ((with_reducible refine ah_ (f := 81) rfl ?_); refine aN_ (some 26) rfl rfl Try.func81 (by kernel_rfl) rfl #[.slice Ao11 y104.length co11, .int .i64 x8_1] rfl (by first | rfl | (simp only [lma_, lmc_, lmn_]; first | done | rfl)) ?_; (with_reducible refine (bP_.calls k1 _ _ y104 x8_1 t107 _ ?side1 ?side2 A9.out).mono ?_); (case side1 => exact cz (Kd.as_ HO_7.out).2.2); (case side2 => exact (Kd.as_ HO_7.out).2.1); rintro e w' ⟨rfl, ⟨nd, rfl⟩⟩; refine ⟨_, rfl, ?_⟩; (try (rw [bL_ wr]; generalize hq_ : World.drewN wr _ = wr; replace HO_7 := Aside0.mk (rqR hq_ HO_7.out); replace HB := Aside0.mk (rqH hq_ HB.out); clear hq_))))
   (try simp only [Act.put, lsa_, ls0_, ls1_])
   have H := HC10.out
   clear HC10
   by_cases c12 : t107 = true
   rotate_left
   ·replace c12 := Bool.eq_false_iff.mpr c12
    subst c12
    have H1 : (if 0 ≤ (wrap64 (x8_1 - 1)) then (if (wrap64 (x8_1 - 1)) < (l0.length : Int) then (aF_.l0 k1 l0 y104 ((ar_ l0 (wrap64 (x8_1 - 1))).f1)) else (none)) else (none)) = some r := by rw [if_neg (show ¬ (false = true) by decide)] at H; exact H
    clear H
    have H := H1
    clear H1
    obtain ⟨ji13, hji13⟩ : ∃ j_ : Int, (wrap64 (x8_1 - 1)) = j_ := ⟨_, rfl⟩
    replace H : (if 0 ≤ (ji13) then (if (ji13) < (l0.length : Int) then (aF_.l0 k1 l0 y104 ((ar_ l0 (ji13)).f1)) else (none)) else (none)) = some r := by first | (rw [hji13] at H; exact H) | (simp only [hji13] at H ⊢; exact H)
    have hji13w : (IntKind.i64.wrap (x8_1 - 1)) = ji13 := (i64_w _).trans hji13
    by_cases c14 : 0 ≤ (ji13)
    rotate_left
    ·rw [if_neg c14] at H
     exact absurd H (by simp)
    rw [if_pos c14] at H
    have c14b0 : decide (0 ≤ (ji13)) = true := decide_eq_true c14
    clear c14
    (first | rw [c14b0] | (simp only [i64_w, i32_w]; rw [c14b0]) | (simp only [c14b1, Bool.not_true, Bool.not_false]) | (simp only [c14b0, Bool.not_true, Bool.not_false]) | skip)
    by_cases c15 : (ji13) < (l0.length : Int)
    rotate_left
    ·rw [if_neg c15] at H
     exact absurd H (by simp)
    rw [if_pos c15] at H
    have c15b0 : decide ((ji13) < (l0.length : Int)) = true := decide_eq_true c15
    clear c15
    have H' := Aside0.mk H
    clear H
    have p108 : 0 ≤ ((ji13) : Int) := of_decide_eq_true (by assumption)
    have q108 : (ji13) < (l0.length : Int) := of_decide_eq_true (by assumption)
    obtain ⟨ad108, A108_3, c108_3, e108, hx108_0, hx108_1, hx108_2, hx108_3, hl108_3, hi108_3⟩ := dp_ HR0.out (ji13) p108 q108
    cases e108
    replace hx108_0 := bu_ HB.out hx108_0
    replace hx108_1 := bu_ HB.out hx108_1
    replace hx108_2 := bu_ HB.out hx108_2
    replace hx108_3 := bu_ HB.out hx108_3
    have HR108_3 := Aside0.mk hi108_3
    have HC108_3 := Aside0.mk hl108_3
    clear hi108_3 hl108_3
    replace p108 := eq_true p108
    replace q108 := eq_true q108
    go_wp2
    go_roundg k1
    case measure => have := HK1.out; omega
    case rel => exact ⟨((ar_ l0 (ji13)).f1), (by first | rfl | (simp; done) | (simp only [← hji13] <;> (first | rfl | simp)) | (simp [*]; done)), H', ⟨by have := HK1.out; omega⟩, ⟨rz HO_7.out⟩, ⟨bz HB.out⟩⟩
   subst c12
   have H1 : (some x8_1) = some r := by rw [if_pos rfl] at H; exact H
   clear H
   have H := H1
   clear H1
   obtain rfl := Option.some.inj H
   go_wp2
   go_ret
   exact ⟨by first | rfl | (simp [*, ao_, an_] <;> rfl), bz HB.out⟩
def cO_.f (l0 : List (S78)) : Option ((List (S78))) := (some (([] : List (S78)) : List (S78))).bind fun y101 => (if y101.length + l0.length < 2513169434916 then (some (y101 ++ l0)) else (none))
set_option maxHeartbeats 8000000 in
set_option maxRecDepth 100000 in
theorem cO_.calls (P0_ : Nat → Prop) (A0 : Option Addr) (c0 : Nat) (l0 : List (S78)) (r : List (S78)) (w : World) (hs0 : Kd.V k78 78 w w.heap.size (fun k_ => P0_ k_) (.slice A0 l0.length c0) l0) (h : cO_.f l0 = some r) :
  Calls Try.prog 82 #[.slice A0 l0.length c0] w fun e w' => ∃ v0_ : Value, e = .returned (v0_) ∧ Kd.N k78 78 w' w.heap.size (fun k_ => (P0_ k_ ∨ w.heap.size ≤ k_)) v0_ r ∧ Below w.heap.size w w' := by
 have HO0 := Aside0.mk (show Kd.V k78 78 w w.heap.size (fun k_ => (P0_ k_ ∨ w.heap.size ≤ k_)) (.slice A0 l0.length c0) l0 from Kd.aJ_ hs0 (fun k_ hk => .inl hk))
 have HB := Aside0.mk (Below.refl w.heap.size w)
 have H : ((some (([] : List (S78)) : List (S78))).bind fun y101 => (if y101.length + l0.length < 2513169434916 then (some (y101 ++ l0)) else (none))) = some r := h
 clear h
 obtain ⟨y101, hy101⟩ : ∃ y_ : List (S78), y_ = (([] : List (S78))) := ⟨_, rfl⟩
 replace H : (if y101.length + l0.length < 2513169434916 then (some (y101 ++ l0)) else (none)) = some r := by first | (rw [hy101]; with_reducible exact H) | (have H2_ := (Option.bind_some _ _).symm.trans H; rw [hy101]; with_reducible exact H2_) | (have H2_ := (Option.bind_some _ _).symm.trans H; with_reducible exact H2_) | with_reducible exact H | (rw [hy101]; exact H) | exact H
 have Ny101 := Aside0.mk hy101
 clear hy101
 by_cases c2 : y101.length + l0.length < 2513169434916
 rotate_left
 ·rw [if_neg c2] at H
  exact absurd H (by simp)
 rw [if_pos c2] at H
 have LMc2 := Aside0.mk c2
 clear c2
 obtain ⟨y104, hy104⟩ : ∃ y_ : List (S78), y_ = (y101 ++ l0) := ⟨_, rfl⟩
 replace H : (some y104) = some r := by first | (rw [hy104]; with_reducible exact H) | (have H2_ := (Option.bind_some _ _).symm.trans H; rw [hy104]; with_reducible exact H2_) | (have H2_ := (Option.bind_some _ _).symm.trans H; with_reducible exact H2_) | with_reducible exact H | (rw [hy104]; exact H) | exact H
 have Ny104 := Aside0.mk hy104
 clear hy104
 obtain rfl := Option.some.inj H
 have qn_ : ∀ (w : World) (a : Option Addr) (n c n' c' : Nat), (binOp .eql 38 (.slice a n c) (.slice none n' c')).run Try.prog w = .ok (.bool a.isNone) w := fun w a n c n' c' => Lib.run_eql_slice_nil w _ _ a n c n' c' Try.underlying38
 rcases A0 with _ | A0s
 ·have hl0_ : l0 = [] := by
   rcases l0 with _ | ⟨x_, l_⟩
   ·rfl
   ·obtain ⟨ad_, h_, _⟩ := (Kd.bz_ HO0.out).2.2.2.2 (by simp)
    cases h_
  subst hl0_
  have hy_ : y104 = [] := by rw [Ny104.out, Ny101.out]; rfl
  go_enter Try.func82, Try.ntmps82
  go_wp2
  go_ret
  try rw [hy_]
  exact ⟨_, rfl, Kd.N_nil _ _ _ _ _, Below.refl _ _⟩
 go_enter Try.func82, Try.ntmps82
 go_wp2_with (first | ((with_reducible refine aH_ (N := 5) rfl ?_); refine Kd.N_lit k78 _ 78 ?hg (N' := 5) ?hd (xs := ([] : List (S78))) (inner := []) (ok := (fun k_ => (P0_ k_ ∨ w.heap.size ≤ k_))) (okp := (fun k_ => (P0_ k_ ∨ w.heap.size ≤ k_))) ?hr ?hp (fun _ hk => hk) ((show ∀ k_, w.heap.size ≤ k_ → (fun k_ => (P0_ k_ ∨ w.heap.size ≤ k_)) k_ from fun k_ hk => (.inr (Nat.le_trans (ae_ (bz HB.out)) hk))) _ (Nat.le_refl _)) (Below.refl _ _) (Nat.le_refl _) (by simp) ?_; (case hd => rfl); (case hg => rfl); (case hr => (go_simp; try rfl)); (case hp => exact (Reps.none _ _)); intro v102 w3 ho4 hb hg_ hnew_; clear hg_ hnew_; (first | rw [← Ny101.out] at ho4 | (simp only [Int.reduceToNat] at ho4; rw [← Ny101.out] at ho4)); replace HO0 := Aside0.mk (Kd.bQ_ (vz HO0.out) (Kd.N_base ho4) hb); have HO103 := Aside0.mk (Kd.ds_ ho4 (ae_ (bz HB.out))); replace HB := Aside0.mk (ac_ (bz HB.out) hb); clear hb ho4) | ((with_reducible refine be_ (b := .append) (xs := #[.tmp 5, .tmp 6]) rfl ?_); at_builtin; refine Kd.N_append_rows k78 (w0 := w) w.heap.size rfl (.tmp 5) (.tmp 6) 38 78 (.agg #[(.int .i64 0), (.int .i64 0), (.string ⟨#[]⟩), (.slice none 0 0)]) 56 rfl Try.underlying38 info78 rfl (by decide) (by omega) v102 y101 l0 _ _ _ (fun k_ => (P0_ k_ ∨ w.heap.size ≤ k_)) (fun k_ => ((fun k_ => (P0_ k_ ∨ w.heap.size ≤ k_))) k_ ∧ some k_ ≠ (v102 : Value).ownBlock) rfl rfl ?aO ?aR (fun _ hk => hk) ?aF ?aB ?aS ?aL ?_; (case aR => exact (by skip; exact Kd.V_F (Kd.aJ_ (ok' := (fun k_ => ((fun k_ => (P0_ k_ ∨ w.heap.size ≤ k_))) k_ ∧ some k_ ≠ (v102 : Value).ownBlock)) (HO0.out) (fun k_ hk => ⟨hk.1, hk.2⟩)))); (case aB => exact (bz HB.out)); (case aF => exact (fun k_ hk => (.inr (Nat.le_trans (ae_ (bz HB.out)) hk)))); (case aO => exact (nz HO103.out)); (case aS => exact (ae_ (bz HB.out))); (case aL => have := LMc2.out; omega); intro v105 w5 ho hb hg hat; rw [← Ny104.out] at ho; replace HO0 := Aside0.mk (Kd.di_ (ok := (fun k_ => (P0_ k_ ∨ w.heap.size ≤ k_))) (vz HO0.out) hg hat); replace HB := Aside0.mk (hb); have HO106 := Aside0.mk (ho); clear HO103; clear ho hb hg hat))
 go_ret
 exact ⟨_, by first | rfl | (simp [*, ao_, an_] <;> rfl), nz HO106.out, bz HB.out⟩
def impl_Entry.f (l0 : List S63) : Option (List S63) := if l0.length < 2932031007402 then some l0 else none
set_option maxHeartbeats 8000000 in
set_option maxRecDepth 100000 in
theorem impl_Entry.calls (A0 : Option Addr) (c0 : Nat) (l0 : List S63) (r : List S63) (w : World) (hr0 : Kd.C k63 w A0 l0.length l0) (hc0 : l0.length ≤ c0) (h : impl_Entry.f l0 = some r) :
  Calls Try.prog 83 #[.slice A0 l0.length c0] w fun e w' => ∃ v0_ : Value, e = .returned (v0_) ∧ Kd.R k63 63 w' w.heap.size (fun _ => True) v0_ r ∧ Below w.heap.size w w' := by
 have q22 : ∀ (w : World) (a : Option Addr) (n c n' c' : Nat), (binOp .eql 27 (.slice a n c) (.slice none n' c')).run Try.prog w = .ok (.bool a.isNone) w := fun w a n c n' c' => Lib.run_eql_slice_nil w _ _ a n c n' c' Try.underlying27
 unfold impl_Entry.f at h
 split at h
 ·rename_i hl
  obtain rfl := Option.some.inj h
  have hl' := Aside0.mk hl
  clear hl h
  rcases A0 with _ | ⟨ab, ao, asp⟩
  ·have h0 : l0 = [] := by
    rcases l0 with _ | ⟨x, l⟩
    ·rfl
    ·obtain ⟨ad, h, _⟩ := hr0.2.2 (by simp)
     cases h
   subst h0
   go_enter Try.func83, Try.ntmps83
   go_wp2
   go_ret
   exact ⟨_, rfl, Kd.R_nil _ _ _ _ _, Below.refl _ _⟩
  ·have HR0 := Aside0.mk hr0
   clear hr0
   go_enter Try.func83, Try.ntmps83
   go_wp2_with (first | ((with_reducible refine aH_ (N := 5) rfl ?_); refine Kd.R_lit k63 _ 63 ?hg (N := 5) ?hd (xs := ([] : List S63)) (inner := []) (ok := fun _ => True) (okp := fun _ => True) ?hr ?hp (fun _ hk => hk) trivial (Below.refl _ _) (Nat.le_refl _) (by simp) ?_; (case hd => rfl); (case hg => rfl); (case hr => (go_simp; try rfl)); (case hp => exact (Reps.none _ _)); intro v1 w1 ho1 hb1 _ _; have HB1 := Aside0.mk hb1; have HO1 := Aside0.mk ho1; clear hb1 ho1) | ((with_reducible refine be_ (b := .append) (xs := #[.tmp 5, .tmp 6]) rfl ?_); at_builtin; refine Kd.cE_ k63 (w0 := w) w.heap.size rfl (.tmp 5) (.tmp 6) 27 63 (.agg #[(.string ⟨#[]⟩), (.string ⟨#[]⟩), (.int .i64 0), (.int .i64 0)]) 48 rfl Try.underlying27 cW_ rfl (by decide) (by omega) v1 [] l0 _ _ _ (fun _ => True) (fun _ => False) rfl rfl HO1.out (Kd.bM_ HR0.out HB1.out) (fun _ _ h => h) (fun _ h => h.elim) (fun _ _ => trivial) HB1.out HB1.out.size (by have := hl'.out; simp only [List.length_nil]; omega) ?_; intro v2 w2 ho2 hb2 _ _; have HO2 := Aside0.mk ho2; have HB2 := Aside0.mk hb2; clear ho2 hb2))
   go_ret
   exact ⟨_, rfl, by simpa using HO2.out, HB2.out⟩
 ·cases h
end Go.Proofs.Ytiheginanghhjaa.Q
