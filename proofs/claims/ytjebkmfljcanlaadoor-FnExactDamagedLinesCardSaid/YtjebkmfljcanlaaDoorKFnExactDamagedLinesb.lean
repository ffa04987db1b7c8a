/- For all arguments that the law's sizes let in, the program's DamagedLines gives what the reference gives. This text holds the last walks, the plain law and the row. -/
import Derived.Shelf.Small.Strs
import Derived.Shelf.Small.Wraps
import Derived.Shelf.Utf8.RuneCount
import Derived.Shelf.Strconv.Itoa0
import Derived.Shelf.Strconv.Itoa1
import Derived.Shelf.LaysM
import Derived.Shelf.Strconv.Itoa2
import Derived.Shelf.Strconv.Itoa3
import Derived.Shelf.Strconv.Itoa4
import Derived.Shelf.Strings.Search1
import Derived.Shelf.Strings.Search2
import Derived.Shelf.Strings.Search3
import Derived.Shelf.Strings.Count
import Derived.Shelf.Strings.Shaped
import Derived.Shelf.Strings.Prefix
import Derived.Shelf.Strings.Split
import Derived.Shelf.Strings.SplitShaped
import Derived.Shelf.Unicode.Decode
import Derived.Shelf.Strings.RuneCount
import Derived.Shelf.Strings.Explode
import Derived.Shelf.Unicode.DecodeSlow
import Derived.Shelf.Unicode.DecodeAny
import Derived.Test.YtjebkmfljcanlaaDoorProg
import Derived.Lib.LaidTab
import Derived.Lib.ItoaNum
import Derived.WalkSmall
import Derived.KernelRfl
import Derived.Lib.SplitLaws
import Derived.Lib.AppendIntMem
import Derived.Lib.ItoaLen
import Derived.Lib.IndexBytes
import Derived.HandedShaped
import Derived.Test.YtjebkmfljcanlaaDoorRows
import Derived.Test.YtjebkmfljcanlaaDoorCards
import Derived.Test.YtjebkmfljcanlaaDoorTie
import Derived.Stop.LaidErr
import Derived.LaidMore
import Derived.Lay
import Derived.SevenTiedAt
import Derived.Stop.Joined
import Derived.WalkKit
import Derived.ProofKit
import Derived.OpenShut
import Derived.ShutString
import Derived.ChangeOld
import Derived.Below
import Derived.SizedLaws
import Derived.Carry
import Derived.Test.YtjebkmfljcanlaaDoorKFnExactDamagedLinesa
set_option linter.unusedVariables false
set_option linter.unusedSimpArgs false
namespace Go.Proofs.YtjebkmfljcanlaaDoor.Q
open Go.RowKit Go.Proofs.YtjebkmfljcanlaaDoorW.PrintWords Go.Proofs.YtjebkmfljcanlaaDoorW.PrintLast Go.Proofs.YtjebkmfljcanlaaDoorW.PrintMore
attribute [local go_sem] aM_ aL_ aS_ aR_ aE_ aC_ aN_ aO_
def aj_.l0 : Nat → List ByteArray → Bool → List Int → Int → Option (List Int)
 | 0, _, _, _, _ => none
 | k + 1, x3, x4, x5, x6 => if x6 < (x3.length : Int) then (if 0 ≤ x6 then ((aa_.f k (rdOf ByteArray.empty x3 x6)).bind fun bt109 => (if bt109.2.2.2 = 0 then (aj_.l0 k x3 x4 x5 (wrap64 (x6 + 1))) else (if x5.length < 17592186044416 then (aj_.l0 k x3 x4 (x5 ++ [wrap64 (x6 + 1)]) (wrap64 (x6 + 1))) else (none)))) else (none)) else (if x4 = true then (some x5) else (if x5.length < 17592186044416 then (some (x5 ++ [wrap64 ((x3.length : Int) + 1)])) else (none)))
def aj_.f (k : Nat) (a0 : ByteArray) : Option (List Int) := (aZ_.f k a0).bind fun bt101 => (aj_.l0 k bt101.1 bt101.2 (([] : List Int)) 1)
set_option maxHeartbeats 8000000 in
set_option maxRecDepth 100000 in
theorem aj_.calls (k : Nat) (a0 : ByteArray) (r : List Int) (w : World) (h : aj_.f k a0 = some r) :
  Calls Tryd.prog 7 #[.string a0] w fun e w' => ∃ v0_ : Value, e = .returned (v0_) ∧ Kd.R (Kd.int .i64) 2 w' w.heap.size (fun _ => True) v0_ r ∧ Below w.heap.size w w' := by
 have hu43 := Tryd.underlying43
 have HB := Aside0.mk (Below.refl w.heap.size w)
 have H : ((aZ_.f k a0).bind fun bt101 => (aj_.l0 k bt101.1 bt101.2 (([] : List Int)) 1)) = some r := h
 clear h
 replace H := Option.bind_eq_some_iff.mp H
 obtain ⟨⟨t101, t102⟩, A20, H⟩ := H
 (try dsimp only at H)
 have A2 := Aside0.mk A20
 clear A20
 obtain ⟨y105, hy105⟩ : ∃ y_ : List Int, y_ = (([] : List Int)) := ⟨_, rfl⟩
 replace H : (aj_.l0 k t101 t102 y105 1) = some r := by first | (rw [hy105]; with_reducible exact H) | (have H2_ := (Option.bind_some _ _).symm.trans H; rw [hy105]; with_reducible exact H2_) | (have H2_ := (Option.bind_some _ _).symm.trans H; with_reducible exact H2_) | with_reducible exact H | (rw [hy105]; exact H) | exact H
 have Ny105 := Aside0.mk hy105
 clear hy105
 have H' := Aside0.mk H
 clear H
 go_enter Tryd.func7, Tryd.ntmps7
 go_wp2_with (first | ((with_reducible refine ax_ (f := 26) rfl ?_); refine aX_ (some 11) rfl rfl Tryd.func26 (by kernel_rfl) rfl #[.string a0] rfl (by first | rfl | (simp only [List.map_toArray, List.map_cons, List.map_nil]; first | done | rfl)) ?_; (with_reducible refine (aZ_.calls k a0 t101 t102 _ A2.out).mono ?_); rintro e w3 ⟨v103, rfl, ho0, hb⟩; refine ⟨_, rfl, ?_⟩; have HO104 := Aside0.mk (Kd.bi_ ho0 (ao_ (bz HB.out))); replace HB := Aside0.mk (ay_ (bz HB.out) hb); (try clear hb); (try clear ho0)) | ((with_reducible refine bf_ (N := 14) rfl ?_); refine Kd.R_lit (Kd.int .i64) _ 2 ?hg (N := 14) ?hd (xs := ([] : List Int)) (inner := []) (ok := fun _ => True) (okp := fun _ => True) ?hr ?hp (fun _ hk => hk) trivial (Below.refl _ _) (Nat.le_refl _) (by simp) ?_; (case hd => rfl); (case hg => rfl); (case hr => (go_simp; try rfl)); (case hp => exact (Reps.none _ _)); intro v106 w4 ho5 hb hg_ hnew_; clear hg_ hnew_; (first | rw [← Ny105.out] at ho5 | (simp only [Int.reduceToNat] at ho5; rw [← Ny105.out] at ho5)); replace HO104 := Aside0.mk (Kd.bk_ (rz HO104.out) hb); have HO107 := Aside0.mk (Kd.bi_ ho5 (ao_ (bz HB.out))); replace HB := Aside0.mk (ay_ (bz HB.out) hb); clear hb ho5))
 (try simp only [Act.put, lsa_, ls0_, ls1_])
 go_loopg [5, 6] k (fun kq v5 v6 w' => ∃ (x5_1 : List Int) (x6_1 : Int), v6 = .int .i64 x6_1 ∧ Aside0 (aj_.l0 kq t101 t102 x5_1 x6_1 = some r) ∧ Aside0 (kq ≤ k) ∧ Aside0 (Kd.R Kd.string 9 w' w.heap.size (fun _ => True) v103 t101) ∧ Aside0 (Kd.R (Kd.int .i64) 2 w' w.heap.size (fun _ => True) v5 x5_1) ∧ Aside0 (Below w.heap.size w w'))
 case atStart => exact ⟨(y105), (1), (by first | rfl | (simp; done) | (simp [*]; done)), H', ⟨Nat.le_refl _⟩, ⟨rz HO104.out⟩, ⟨rz HO107.out⟩, ⟨bz HB.out⟩⟩
 case round =>
  clear H'
  obtain ⟨x5_1, x6_1, rfl, HA, HK1, HO_3, HO_5, HB⟩ := hrel
  cases gk with
  | zero => exact absurd HA.out (by simp [aj_.l0])
  | succ k1 =>
   have H := HA.out
   clear HA
   simp only [aj_.l0] at H
   by_cases c6 : x6_1 < (t101.length : Int)
   rotate_left
   ·rw [if_neg c6] at H
    have c6b0 : decide (x6_1 < (t101.length : Int)) = false := decide_eq_false c6
    clear c6
    by_cases c17 : t102 = true
    rotate_left
    ·replace c17 := Bool.eq_false_iff.mpr c17
     subst c17
     have H1 : (if x5_1.length < 17592186044416 then (some (x5_1 ++ [wrap64 ((t101.length : Int) + 1)])) else (none)) = some r := by rw [if_neg (show ¬ (false = true) by decide)] at H; exact H
     clear H
     have H := H1
     clear H1
     by_cases c19 : x5_1.length < 17592186044416
     rotate_left
     ·rw [if_neg c19] at H
      exact absurd H (by simp)
     rw [if_pos c19] at H
     have LMc19 := Aside0.mk c19
     clear c19
     obtain ⟨y117, hy117⟩ : ∃ y_ : List Int, y_ = (x5_1 ++ [wrap64 ((t101.length : Int) + 1)]) := ⟨_, rfl⟩
     replace H : (some y117) = some r := by first | (rw [hy117]; with_reducible exact H) | (have H2_ := (Option.bind_some _ _).symm.trans H; rw [hy117]; with_reducible exact H2_) | (have H2_ := (Option.bind_some _ _).symm.trans H; with_reducible exact H2_) | with_reducible exact H | (rw [hy117]; exact H) | exact H
     have Ny117 := Aside0.mk hy117
     clear hy117
     obtain rfl := Option.some.inj H
     obtain ⟨Ao20, co20, eo20⟩ := Kd.bm_ HO_3.out
     subst eo20
     go_wp2_with (first | ((with_reducible refine aW_ (b := .append) (xs := #[.tmp 38, .tmp 42]) rfl ?_); at_builtin; refine Kd.bo_ (Kd.int .i64) (w0 := w) w.heap.size rfl (.tmp 38) (.tmp 42) 22 2 (.int .i64 0) 8 rfl Tryd.underlying22 info2 rfl (by decide) (by omega) u5 x5_1 (wrap64 ((t101.length : Int) + 1)) [.int .i64 (wrap64 ((t101.length : Int) + 1))] (fun _ => True) (fun _ => False) rfl rfl ?aP (fun _ hk => hk.elim) ?aF ?aO ?aB ?aS ?aL ?_; (case aP => exact rfl); (case aB => exact (bz HB.out)); (case aF => exact (fun _ _ => trivial)); (case aO => exact (rz HO_5.out)); (case aS => exact (ao_ (bz HB.out))); (case aL => have := LMc19.out; omega); intro v118 w21 ho hb hg hat; rw [← Ny117.out] at ho; replace HO_3 := Aside0.mk (Kd.R_over' (rz HO_3.out) (Kd.R_typed (rz HO_5.out)) (by decide) hg); replace HB := Aside0.mk (hb); have HO119 := Aside0.mk (ho); clear HO_5; clear ho hb hg hat))
     go_ret
     exact ⟨_, by first | rfl | (simp [*, aq_, ar_] <;> rfl), rz HO119.out, bz HB.out⟩
    subst c17
    have H1 : (some x5_1) = some r := by rw [if_pos rfl] at H; exact H
    clear H
    have H := H1
    clear H1
    obtain rfl := Option.some.inj H
    obtain ⟨Ao18, co18, eo18⟩ := Kd.bm_ HO_3.out
    subst eo18
    go_wp2
    go_ret
    exact ⟨_, by first | rfl | (simp [*, aq_, ar_] <;> rfl), rz HO_5.out, bz HB.out⟩
   rw [if_pos c6] at H
   have c6b0 : decide (x6_1 < (t101.length : Int)) = true := decide_eq_true c6
   clear c6
   by_cases c7 : 0 ≤ x6_1
   rotate_left
   ·rw [if_neg c7] at H
    exact absurd H (by simp)
   rw [if_pos c7] at H
   have c7b0 : decide (0 ≤ x6_1) = true := decide_eq_true c7
   clear c7
   replace H := Option.bind_eq_some_iff.mp H
   obtain ⟨⟨t109, t110, t111, t112⟩, A80, H⟩ := H
   (try dsimp only at H)
   have A8 := Aside0.mk A80
   clear A80
   have HC9 := Aside0.mk H
   clear H
   obtain ⟨Ao10, co10, eo10⟩ := Kd.bm_ HO_3.out
   subst eo10
   have p108 : 0 ≤ (x6_1 : Int) := of_decide_eq_true (by assumption)
   have q108 : x6_1 < (t101.length : Int) := of_decide_eq_true (by assumption)
   obtain ⟨ad108, e108, hx108_0⟩ := Kd.bh_ (Kd.aJ_ HO_3.out).2.2 x6_1 p108 q108
   cases e108
   replace p108 := eq_true p108
   replace q108 := eq_true q108
   go_upto_if 30 with (first | ((with_reducible refine ax_ (f := 27) rfl ?_); refine aX_ (some 26) rfl rfl Tryd.func27 (by kernel_rfl) rfl #[.string (rdOf ByteArray.empty t101 x6_1)] rfl (by first | rfl | (simp only [List.map_toArray, List.map_cons, List.map_nil]; first | done | rfl)) ?_; (with_reducible refine (aa_.calls k1 (rdOf ByteArray.empty t101 x6_1) t109 t110 t111 t112 _ A8.out).mono ?_); rintro e w11 ⟨rfl, hb⟩; refine ⟨_, rfl, ?_⟩; replace HO_3 := Aside0.mk (Kd.bk_ (rz HO_3.out) hb); replace HO_5 := Aside0.mk (Kd.bk_ (rz HO_5.out) hb); replace HB := Aside0.mk (ay_ (bz HB.out) hb); (try clear hb)) | ((with_reducible refine bf_ (N := 7) rfl ?_); refine bs_ ?hg (N := 7) ?hd (cs := #[.string (⟨#[]⟩ : ByteArray), .string (⟨#[]⟩ : ByteArray), .string (⟨#[]⟩ : ByteArray)]) (t := 43) ?hr ?_; (case hd => rfl); (case hg => rfl); (case hr => (go_simp; try rfl)); intro gb113 hg w12 hbox hb; replace HO_3 := Aside0.mk (Kd.bk_ (rz HO_3.out) hb); replace HO_5 := Aside0.mk (Kd.bk_ (rz HO_5.out) hb); have BK113 := Aside0.mk (hbox); have GW113 := Aside0.mk ((by rw [hg]; exact (ao_ (bz HB.out)) : w.heap.size ≤ gb113)); have GE113 := Aside0.mk ((by rw [hg]; exact (ao_ (bz HB.out)) : w.heap.size ≤ gb113)); replace HB := Aside0.mk (ay_ (bz HB.out) hb); clear hb hbox hg; have hcz13_0 : w12.cell? ⟨gb113, 0, none⟩ = some (.string (⟨#[]⟩ : ByteArray)) := (an_ BK113.out 0).trans rfl; have hcz13_1 : w12.cell? ⟨gb113, 1, none⟩ = some (.string (⟨#[]⟩ : ByteArray)) := (an_ BK113.out 1).trans rfl; have hcz13_2 : w12.cell? ⟨gb113, 2, none⟩ = some (.string (⟨#[]⟩ : ByteArray)) := (an_ BK113.out 2).trans rfl; have hfz13_0 := ad_ BK113.out 0; have hfz13_1 := ad_ BK113.out 1; have hfz13_2 := ad_ BK113.out 2))
   (try simp only [Act.put, lsa_, ls0_, ls1_])
   have H := HC9.out
   clear HC9
   by_cases c14 : t112 = 0
   rotate_left
   ·rw [if_neg c14] at H
    have c14b0 : (t112 == 0) = false := beq_eq_false_iff_ne.mpr c14
    have c14b1 : (t112 != 0) = true := bne_iff_ne.mpr c14
    (first | rw [c14b0] | (simp only [i64_w, i32_w]; rw [c14b0]) | (simp only [c14b1, Bool.not_true, Bool.not_false]) | (simp only [c14b0, Bool.not_true, Bool.not_false]) | skip)
    by_cases c15 : x5_1.length < 17592186044416
    rotate_left
    ·rw [if_neg c15] at H
     exact absurd H (by simp)
    rw [if_pos c15] at H
    have LMc15 := Aside0.mk c15
    clear c15
    obtain ⟨y114, hy114⟩ : ∃ y_ : List Int, y_ = (x5_1 ++ [wrap64 (x6_1 + 1)]) := ⟨_, rfl⟩
    replace H : (aj_.l0 k1 t101 t102 y114 (wrap64 (x6_1 + 1))) = some r := by first | (rw [hy114]; with_reducible exact H) | (have H2_ := (Option.bind_some _ _).symm.trans H; rw [hy114]; with_reducible exact H2_) | (have H2_ := (Option.bind_some _ _).symm.trans H; with_reducible exact H2_) | with_reducible exact H | (rw [hy114]; exact H) | exact H
    have Ny114 := Aside0.mk hy114
    clear hy114
    have H' := Aside0.mk H
    clear H
    go_wp2_with (first | ((with_reducible refine aW_ (b := .append) (xs := #[.tmp 31, .tmp 34]) rfl ?_); at_builtin; refine Kd.bo_ (Kd.int .i64) (w0 := w) w.heap.size rfl (.tmp 31) (.tmp 34) 22 2 (.int .i64 0) 8 rfl Tryd.underlying22 info2 rfl (by decide) (by omega) u5 x5_1 (wrap64 (x6_1 + 1)) [.int .i64 (wrap64 (x6_1 + 1))] (fun _ => True) (fun _ => False) rfl (by first | (go_simp; done) | (go_simp; rfl)) ?aP (fun _ hk => hk.elim) ?aF ?aO ?aB ?aS ?aL ?_; (case aP => exact rfl); (case aB => exact (by repeat (first | (with_reducible first | exact HB.out | apply bA_ | apply bN_ | apply bD_ | refine am_ ?_ GE113.out) | exact HB.out))); (case aF => exact (fun _ _ => trivial)); (case aO => exact (rz (Kd.aY_ (Kd.R_far (p := ⟨gb113, 2, none⟩) (Kd.R_far (p := ⟨gb113, 1, none⟩) (Kd.R_far (p := ⟨gb113, 0, none⟩) (Kd.R_types HO_5.out BK113.out (by decide)) (fun _ hk => hk.2) (.string t109)) (fun _ hk => hk.2) (.string t110)) (fun _ hk => hk.2) (.string t111)) (fun _ hk => trivial)))); (case aS => exact (ao_ (by repeat (first | (with_reducible first | exact HB.out | apply bA_ | apply bN_ | apply bD_ | refine am_ ?_ GE113.out) | exact HB.out)))); (case aL => have := LMc15.out; omega); intro v115 w16 ho hb hg hat; rw [← Ny114.out] at ho; replace HO_3 := Aside0.mk (Kd.R_over' (rz (Kd.aY_ (Kd.R_far (p := ⟨gb113, 2, none⟩) (Kd.R_far (p := ⟨gb113, 1, none⟩) (Kd.R_far (p := ⟨gb113, 0, none⟩) (Kd.R_types HO_3.out BK113.out (by decide)) (fun _ hk => hk.2) (.string t109)) (fun _ hk => hk.2) (.string t110)) (fun _ hk => hk.2) (.string t111)) (fun _ h_ => h_.1))) (Kd.R_typed (rz (Kd.aY_ (Kd.R_far (p := ⟨gb113, 2, none⟩) (Kd.R_far (p := ⟨gb113, 1, none⟩) (Kd.R_far (p := ⟨gb113, 0, none⟩) (Kd.R_types HO_5.out BK113.out (by decide)) (fun _ hk => hk.2) (.string t109)) (fun _ hk => hk.2) (.string t110)) (fun _ hk => hk.2) (.string t111)) (fun _ h_ => h_.1)))) (by decide) hg); replace BK113 := Aside0.mk (blk_grown (g := gb113) (o := .cells #[.string t109, .string t110, .string t111] 43 (0, 0)) (by (with_reducible repeat (first | refine ac_ ?_ _ | refine ah_ ?_ | refine ab_ ?_ _)); refine aF_ (cs := #[.string t109, .string t110, .string (⟨#[]⟩ : ByteArray)]) ?_ 2 _ rfl; (with_reducible repeat (first | refine ac_ ?_ _ | refine ah_ ?_ | refine ab_ ?_ _)); refine aF_ (cs := #[.string t109, .string (⟨#[]⟩ : ByteArray), .string (⟨#[]⟩ : ByteArray)]) ?_ 1 _ rfl; (with_reducible repeat (first | refine ac_ ?_ _ | refine ah_ ?_ | refine ab_ ?_ _)); refine aF_ (cs := #[.string (⟨#[]⟩ : ByteArray), .string (⟨#[]⟩ : ByteArray), .string (⟨#[]⟩ : ByteArray)]) ?_ 0 _ rfl; (with_reducible repeat (first | refine ac_ ?_ _ | refine ah_ ?_ | refine ab_ ?_ _)); exact BK113.out) hg (Kd.R_ne HO_5.out BK113.out (by decide))); replace HB := Aside0.mk (hb); have HO116 := Aside0.mk (ho); clear HO_5; clear ho hb hg hat))
    go_roundg k1
    case measure => have := HK1.out; omega
    case rel => exact ⟨(y114), (wrap64 (x6_1 + 1)), (by first | rfl | (simp; done) | (simp [*]; done)), H', ⟨by have := HK1.out; omega⟩, ⟨rz HO_3.out⟩, ⟨rz HO116.out⟩, ⟨by repeat (first | (with_reducible first | exact HB.out | apply bA_ | apply bN_ | apply bD_ | refine am_ ?_ GE113.out) | exact HB.out)⟩⟩
   rw [if_pos c14] at H
   have c14b0 : (t112 == 0) = true := beq_iff_eq.mpr c14
   have c14b1 : (t112 != 0) = false := bne_eq_false_iff_eq.mpr c14
   clear c14
   (first | rw [c14b0] | (simp only [i64_w, i32_w]; rw [c14b0]) | (simp only [c14b1, Bool.not_true, Bool.not_false]) | (simp only [c14b0, Bool.not_true, Bool.not_false]) | skip)
   have H' := Aside0.mk H
   clear H
   go_wp2
   go_roundg k1
   case measure => have := HK1.out; omega
   case rel => exact ⟨(x5_1), (wrap64 (x6_1 + 1)), (by first | rfl | (simp; done) | (simp [*]; done)), H', ⟨by have := HK1.out; omega⟩, ⟨rz (Kd.aY_ (Kd.R_far (p := ⟨gb113, 2, none⟩) (Kd.R_far (p := ⟨gb113, 1, none⟩) (Kd.R_far (p := ⟨gb113, 0, none⟩) (Kd.R_types HO_3.out BK113.out (by decide)) (fun _ hk => hk.2) (.string t109)) (fun _ hk => hk.2) (.string t110)) (fun _ hk => hk.2) (.string t111)) (fun _ hk => trivial))⟩, ⟨rz (Kd.aY_ (Kd.R_far (p := ⟨gb113, 2, none⟩) (Kd.R_far (p := ⟨gb113, 1, none⟩) (Kd.R_far (p := ⟨gb113, 0, none⟩) (Kd.R_types HO_5.out BK113.out (by decide)) (fun _ hk => hk.2) (.string t109)) (fun _ hk => hk.2) (.string t110)) (fun _ hk => hk.2) (.string t111)) (fun _ hk => trivial))⟩, ⟨by repeat (first | (with_reducible first | exact HB.out | apply bA_ | apply bN_ | apply bD_ | refine am_ ?_ GE113.out) | exact HB.out)⟩⟩
end Go.Proofs.YtjebkmfljcanlaaDoor.Q
namespace Go.Proofs
open Go.Shelf
def Tryd.laysM173_ren : Go.Shelf.Ren := ⟨fun | 173 => 79 | 246 => 94 | 283 => 106 | 284 => 107 | 285 => 108 | 286 => 109 | 129 => 119 | 317 => 118 | 318 => 120 | 319 => 121 | 320 => 122 | 337 => 123 | 338 => 124 | n => n, fun | 2 => 2 | 3 => 3 | 9 => 9 | 4 => 4 | 171 => 113 | 0 => 0 | 53 => 79 | 37 => 33 | 5 => 5 | 173 => 116 | 212 => 132 | 51 => 128 | 20 => 20 | 213 => 133 | 46 => 85 | 232 => 137 | 233 => 138 | n => n, fun | 17 => 3 | 18 => 4 | 19 => 5 | n => n⟩
theorem Tryd.laysM173 : Go.Proofs.LaysM.n173 Tryd.prog Tryd.laysM173_ren := {
 mixed := by kernel_rfl
 f129 := Tryd.func119.trans (congrArg some (by kernel_rfl))
 f173 := Tryd.func79.trans (congrArg some (by kernel_rfl))
 f246 := Tryd.func94.trans (congrArg some (by kernel_rfl))
 f283 := Tryd.func106.trans (congrArg some (by kernel_rfl))
 f284 := Tryd.func107.trans (congrArg some (by kernel_rfl))
 f285 := Tryd.func108.trans (congrArg some (by kernel_rfl))
 f286 := Tryd.func109.trans (congrArg some (by kernel_rfl))
 f317 := Tryd.func118.trans (congrArg some (by kernel_rfl))
 f318 := Tryd.func120.trans (congrArg some (by kernel_rfl))
 f319 := Tryd.func121.trans (congrArg some (by kernel_rfl))
 f320 := Tryd.func122.trans (congrArg some (by kernel_rfl))
 f337 := Tryd.func123.trans (congrArg some (by kernel_rfl))
 f338 := Tryd.func124.trans (congrArg some (by kernel_rfl))
 t0 := Tryd.underlying0
 a0 := Tryd.isAgg0
 z0 := Tryd.sizeOf0
 v0 := Tryd.zeroValue0
 t2 := Tryd.underlying2
 a2 := Tryd.isAgg2
 z2 := Tryd.sizeOf2
 v2 := Tryd.zeroValue2
 t3 := Tryd.underlying3
 a3 := Tryd.isAgg3
 z3 := Tryd.sizeOf3
 v3 := Tryd.zeroValue3
 t4 := Tryd.underlying4
 a4 := Tryd.isAgg4
 z4 := Tryd.sizeOf4
 v4 := Tryd.zeroValue4
 t5 := Tryd.underlying5
 a5 := Tryd.isAgg5
 z5 := Tryd.sizeOf5
 v5 := Tryd.zeroValue5
 t9 := Tryd.underlying9
 a9 := Tryd.isAgg9
 z9 := Tryd.sizeOf9
 v9 := Tryd.zeroValue9
 t20 := Tryd.underlying20
 a20 := Tryd.isAgg20
 z20 := Tryd.sizeOf20
 v20 := Tryd.zeroValue20
 t37 := Tryd.underlying33
 a37 := Tryd.isAgg33
 z37 := Tryd.sizeOf33
 v37 := Tryd.zeroValue33
 t46 := Tryd.underlying85
 a46 := Tryd.isAgg85
 z46 := Tryd.sizeOf85
 v46 := Tryd.zeroValue85
 t51 := Tryd.underlying128
 a51 := Tryd.isAgg128
 z51 := Tryd.sizeOf128
 v51 := Tryd.zeroValue128
 t53 := Tryd.underlying79
 a53 := Tryd.isAgg79
 z53 := Tryd.sizeOf79
 v53 := Tryd.zeroValue79
 t171 := Tryd.underlying113
 a171 := Tryd.isAgg113
 z171 := Tryd.sizeOf113
 v171 := Tryd.zeroValue113
 t173 := Tryd.underlying116
 a173 := Tryd.isAgg116
 z173 := Tryd.sizeOf116
 v173 := Tryd.zeroValue116
 t212 := Tryd.underlying132
 a212 := Tryd.isAgg132
 z212 := Tryd.sizeOf132
 v212 := Tryd.zeroValue132
 t213 := Tryd.underlying133
 a213 := Tryd.isAgg133
 z213 := Tryd.sizeOf133
 t232 := Tryd.underlying137
 a232 := Tryd.isAgg137
 z232 := Tryd.sizeOf137
 v232 := Tryd.zeroValue137
 t233 := Tryd.underlying138
 a233 := Tryd.isAgg138
 z233 := Tryd.sizeOf138
 v233 := Tryd.zeroValue138
 g17 := by kernel_rfl
 g18 := by kernel_rfl
 g19 := by kernel_rfl
 i0 := by kernel_rfl
 i2 := by kernel_rfl
 i3 := by kernel_rfl
 i4 := by kernel_rfl
 i5 := by kernel_rfl
 i9 := by kernel_rfl
 i20 := by kernel_rfl
 i37 := by kernel_rfl
 i46 := by kernel_rfl
 i51 := by kernel_rfl
 i53 := by kernel_rfl
 i171 := by kernel_rfl
 i173 := by kernel_rfl
 i212 := by kernel_rfl
 i232 := by kernel_rfl
 i233 := by kernel_rfl
 m17 := by kernel_rfl
 m18 := by kernel_rfl
 m19 := by kernel_rfl }
open Go.RowKit Go.Sort Go.Lib in
theorem Tryd.strconv_FormatInt_10 (n : Int) (h0 : -9223372036854775808 ≤ n) (h1 : n ≤ 9223372036854775807) (w : World) (htab : Lib.TabIs Tryd.prog w "internal/strconv.uint64pow10" .u64 Lib.pow10Tab) :
  Calls Tryd.prog 79 #[.int .i64 n, .int .i64 10] w fun e w' => e = .returned (.string ⟨(Lib.itoa n).toArray⟩) ∧ ∃ k os, w' = grow (w.drewN k) os := Any.strconv_FormatInt_10 Tryd.laysM173 n h0 h1 w htab
def Tryd.lays144_ren : Go.Shelf.Ren := ⟨fun | 144 => 76 | 143 => 73 | 219 => 93 | 217 => 102 | 225 => 103 | 224 => 104 | 267 => 105 | 266 => 116 | 314 => 117 | n => n, fun | 9 => 9 | 4 => 4 | 3 => 3 | 5 => 5 | 46 => 85 | 146 => 129 | 51 => 128 | n => n, fun | 1 => 0 | n => n⟩
theorem Tryd.lays144 : Go.Proofs.Lays.n144 Tryd.prog Tryd.lays144_ren := {
 mixed := by kernel_rfl
 f143 := Tryd.func73.trans (congrArg some (by kernel_rfl))
 f144 := Tryd.func76.trans (congrArg some (by kernel_rfl))
 f217 := Tryd.func102.trans (congrArg some (by kernel_rfl))
 f219 := Tryd.func93.trans (congrArg some (by kernel_rfl))
 f224 := Tryd.func104.trans (congrArg some (by kernel_rfl))
 f225 := Tryd.func103.trans (congrArg some (by kernel_rfl))
 f266 := Tryd.func116.trans (congrArg some (by kernel_rfl))
 f267 := Tryd.func105.trans (congrArg some (by kernel_rfl))
 f314 := Tryd.func117.trans (congrArg some (by kernel_rfl))
 t3 := Tryd.underlying3
 a3 := Tryd.isAgg3
 z3 := Tryd.sizeOf3
 v3 := Tryd.zeroValue3
 t4 := Tryd.underlying4
 a4 := Tryd.isAgg4
 z4 := Tryd.sizeOf4
 v4 := Tryd.zeroValue4
 t5 := Tryd.underlying5
 a5 := Tryd.isAgg5
 z5 := Tryd.sizeOf5
 v5 := Tryd.zeroValue5
 t9 := Tryd.underlying9
 a9 := Tryd.isAgg9
 z9 := Tryd.sizeOf9
 v9 := Tryd.zeroValue9
 t46 := Tryd.underlying85
 a46 := Tryd.isAgg85
 z46 := Tryd.sizeOf85
 v46 := Tryd.zeroValue85
 t51 := Tryd.underlying128
 a51 := Tryd.isAgg128
 z51 := Tryd.sizeOf128
 v51 := Tryd.zeroValue128
 t146 := Tryd.underlying129
 a146 := Tryd.isAgg129
 z146 := Tryd.sizeOf129
 v146 := Tryd.zeroValue129
 g1 := by kernel_rfl }
open Go.RowKit Go.Lib in
theorem Tryd.strings_Contains_one (s : ByteArray) (c : UInt8) (w : World) :
  Calls Tryd.prog 76 #[.string s, .string ⟨#[c]⟩] w fun e w' => e = .returned (.bool (decide (0 ≤ Lib.indexByte s.data.toList c))) ∧ w' = w := Any.strings_Contains_one Tryd.lays144 s c w
open Go.RowKit Go.Lib in
theorem Tryd.strings_Contains (s sub : ByteArray) (m : Int) (w : World) (hs : s.size < 4294967281) (hm : w.cell? ⟨0, 0, none⟩ = some (.int .i64 m)) :
  Calls Tryd.prog 76 #[.string s, .string sub] w fun e w' => e = .returned (.bool (Lib.contains s.data.toList sub.data.toList)) ∧ w' = w := Any.strings_Contains Tryd.lays144 s sub m w hs hm
def Tryd.laysM219_ren : Go.Shelf.Ren := ⟨fun | 219 => 93 | 217 => 102 | 225 => 103 | 224 => 104 | 267 => 105 | 266 => 116 | 314 => 117 | n => n, fun | 9 => 9 | 3 => 3 | 4 => 4 | 5 => 5 | 46 => 85 | 146 => 129 | 51 => 128 | n => n, fun | 1 => 0 | n => n⟩
theorem Tryd.laysM219 : Go.Proofs.LaysM.n219 Tryd.prog Tryd.laysM219_ren := {
 mixed := by kernel_rfl
 f217 := Tryd.func102.trans (congrArg some (by kernel_rfl))
 f219 := Tryd.func93.trans (congrArg some (by kernel_rfl))
 f224 := Tryd.func104.trans (congrArg some (by kernel_rfl))
 f225 := Tryd.func103.trans (congrArg some (by kernel_rfl))
 f266 := Tryd.func116.trans (congrArg some (by kernel_rfl))
 f267 := Tryd.func105.trans (congrArg some (by kernel_rfl))
 f314 := Tryd.func117.trans (congrArg some (by kernel_rfl))
 t3 := Tryd.underlying3
 a3 := Tryd.isAgg3
 z3 := Tryd.sizeOf3
 v3 := Tryd.zeroValue3
 t4 := Tryd.underlying4
 a4 := Tryd.isAgg4
 z4 := Tryd.sizeOf4
 v4 := Tryd.zeroValue4
 t5 := Tryd.underlying5
 a5 := Tryd.isAgg5
 z5 := Tryd.sizeOf5
 v5 := Tryd.zeroValue5
 t9 := Tryd.underlying9
 a9 := Tryd.isAgg9
 z9 := Tryd.sizeOf9
 v9 := Tryd.zeroValue9
 t46 := Tryd.underlying85
 a46 := Tryd.isAgg85
 z46 := Tryd.sizeOf85
 v46 := Tryd.zeroValue85
 t51 := Tryd.underlying128
 a51 := Tryd.isAgg128
 z51 := Tryd.sizeOf128
 v51 := Tryd.zeroValue128
 t146 := Tryd.underlying129
 a146 := Tryd.isAgg129
 z146 := Tryd.sizeOf129
 v146 := Tryd.zeroValue129
 g1 := by kernel_rfl
 i3 := by kernel_rfl
 i4 := by kernel_rfl
 i5 := by kernel_rfl
 i9 := by kernel_rfl
 i46 := by kernel_rfl
 i51 := by kernel_rfl
 i146 := by kernel_rfl
 m1 := by kernel_rfl
 s1_3 := fun w h => Go.Proofs.cell_of_shapedOpen_int (zero := #[.int .i64 0]) (t := 3) h (of_decide_eq_true (by kernel_rfl)) (by kernel_rfl) rfl (by kernel_rfl) (by kernel_rfl) Tryd.underlying3 }
def Tryd.lays146_ren : Go.Shelf.Ren := ⟨fun | 146 => 28 | 221 => 50 | 268 => 71 | 138 => 72 | 143 => 73 | 195 => 90 | 197 => 91 | 218 => 92 | 219 => 93 | 260 => 101 | 217 => 102 | 225 => 103 | 224 => 104 | 267 => 105 | 266 => 116 | 314 => 117 | n => n, fun | 9 => 9 | 31 => 39 | 3 => 3 | 4 => 4 | 0 => 0 | 105 => 102 | 21 => 21 | 5 => 5 | 46 => 85 | 119 => 124 | 139 => 127 | 138 => 126 | 146 => 129 | 51 => 128 | n => n, fun | 1 => 0 | 3 => 1 | 4 => 2 | n => n⟩
theorem Tryd.lays146 : Go.Proofs.Lays.n146 Tryd.prog Tryd.lays146_ren := {
 mixed := by kernel_rfl
 f138 := Tryd.func72.trans (congrArg some (by kernel_rfl))
 f143 := Tryd.func73.trans (congrArg some (by kernel_rfl))
 f146 := Tryd.func28.trans (congrArg some (by kernel_rfl))
 f195 := Tryd.func90.trans (congrArg some (by kernel_rfl))
 f197 := Tryd.func91.trans (congrArg some (by kernel_rfl))
 f217 := Tryd.func102.trans (congrArg some (by kernel_rfl))
 f218 := Tryd.func92.trans (congrArg some (by kernel_rfl))
 f219 := Tryd.func93.trans (congrArg some (by kernel_rfl))
 f221 := Tryd.func50.trans (congrArg some (by kernel_rfl))
 f224 := Tryd.func104.trans (congrArg some (by kernel_rfl))
 f225 := Tryd.func103.trans (congrArg some (by kernel_rfl))
 f260 := Tryd.func101.trans (congrArg some (by kernel_rfl))
 f266 := Tryd.func116.trans (congrArg some (by kernel_rfl))
 f267 := Tryd.func105.trans (congrArg some (by kernel_rfl))
 f268 := Tryd.func71.trans (congrArg some (by kernel_rfl))
 f314 := Tryd.func117.trans (congrArg some (by kernel_rfl))
 t0 := Tryd.underlying0
 a0 := Tryd.isAgg0
 z0 := Tryd.sizeOf0
 v0 := Tryd.zeroValue0
 t3 := Tryd.underlying3
 a3 := Tryd.isAgg3
 z3 := Tryd.sizeOf3
 v3 := Tryd.zeroValue3
 t4 := Tryd.underlying4
 a4 := Tryd.isAgg4
 z4 := Tryd.sizeOf4
 v4 := Tryd.zeroValue4
 t5 := Tryd.underlying5
 a5 := Tryd.isAgg5
 z5 := Tryd.sizeOf5
 v5 := Tryd.zeroValue5
 t9 := Tryd.underlying9
 a9 := Tryd.isAgg9
 z9 := Tryd.sizeOf9
 v9 := Tryd.zeroValue9
 t21 := Tryd.underlying21
 a21 := Tryd.isAgg21
 z21 := Tryd.sizeOf21
 v21 := Tryd.zeroValue21
 t31 := Tryd.underlying39
 a31 := Tryd.isAgg39
 z31 := Tryd.sizeOf39
 v31 := Tryd.zeroValue39
 t46 := Tryd.underlying85
 a46 := Tryd.isAgg85
 z46 := Tryd.sizeOf85
 v46 := Tryd.zeroValue85
 t51 := Tryd.underlying128
 a51 := Tryd.isAgg128
 z51 := Tryd.sizeOf128
 v51 := Tryd.zeroValue128
 t105 := Tryd.underlying102
 a105 := Tryd.isAgg102
 z105 := Tryd.sizeOf102
 v105 := Tryd.zeroValue102
 t119 := Tryd.underlying124
 a119 := Tryd.isAgg124
 z119 := Tryd.sizeOf124
 t138 := Tryd.underlying126
 a138 := Tryd.isAgg126
 z138 := Tryd.sizeOf126
 v138 := Tryd.zeroValue126
 t139 := Tryd.underlying127
 a139 := Tryd.isAgg127
 z139 := Tryd.sizeOf127
 v139 := Tryd.zeroValue127
 t146 := Tryd.underlying129
 a146 := Tryd.isAgg129
 z146 := Tryd.sizeOf129
 v146 := Tryd.zeroValue129
 g1 := by kernel_rfl
 g3 := by kernel_rfl
 g4 := by kernel_rfl }
open Go.RowKit Go.Lib in
theorem Tryd.strings_Split (s sep : ByteArray) (m : Int) (w : World) (hs : s.size < 4294967281) (hm : w.cell? ⟨0, 0, none⟩ = some (.int .i64 m)) (h1 : 1 ≤ sep.size) :
  Calls Tryd.prog 28 #[.string s, .string sep] w fun e w' =>
   e = .returned (.slice (some ⟨w.heap.size, 0, none⟩) (Lib.countB s sep + 1) (Lib.countB s sep + 1)) ∧ w' = w.alloc (.cells ((Lib.splitB sep 0 (Lib.countB s sep) s).map Value.string).toArray 9) := Any.strings_Split Tryd.lays146 (by kernel_rfl) s sep m w hs hm h1
def Tryd.lays147_ren : Go.Shelf.Ren := ⟨fun | 147 => 52 | 221 => 50 | 268 => 71 | 138 => 72 | 143 => 73 | 195 => 90 | 197 => 91 | 218 => 92 | 219 => 93 | 260 => 101 | 217 => 102 | 225 => 103 | 224 => 104 | 267 => 105 | 266 => 116 | 314 => 117 | n => n, fun | 9 => 9 | 3 => 3 | 31 => 39 | 4 => 4 | 0 => 0 | 105 => 102 | 21 => 21 | 5 => 5 | 46 => 85 | 119 => 124 | 139 => 127 | 138 => 126 | 146 => 129 | 51 => 128 | n => n, fun | 1 => 0 | 3 => 1 | 4 => 2 | n => n⟩
theorem Tryd.lays147 : Go.Proofs.Lays.n147 Tryd.prog Tryd.lays147_ren := {
 mixed := by kernel_rfl
 f138 := Tryd.func72.trans (congrArg some (by kernel_rfl))
 f143 := Tryd.func73.trans (congrArg some (by kernel_rfl))
 f147 := Tryd.func52.trans (congrArg some (by kernel_rfl))
 f195 := Tryd.func90.trans (congrArg some (by kernel_rfl))
 f197 := Tryd.func91.trans (congrArg some (by kernel_rfl))
 f217 := Tryd.func102.trans (congrArg some (by kernel_rfl))
 f218 := Tryd.func92.trans (congrArg some (by kernel_rfl))
 f219 := Tryd.func93.trans (congrArg some (by kernel_rfl))
 f221 := Tryd.func50.trans (congrArg some (by kernel_rfl))
 f224 := Tryd.func104.trans (congrArg some (by kernel_rfl))
 f225 := Tryd.func103.trans (congrArg some (by kernel_rfl))
 f260 := Tryd.func101.trans (congrArg some (by kernel_rfl))
 f266 := Tryd.func116.trans (congrArg some (by kernel_rfl))
 f267 := Tryd.func105.trans (congrArg some (by kernel_rfl))
 f268 := Tryd.func71.trans (congrArg some (by kernel_rfl))
 f314 := Tryd.func117.trans (congrArg some (by kernel_rfl))
 t0 := Tryd.underlying0
 a0 := Tryd.isAgg0
 z0 := Tryd.sizeOf0
 v0 := Tryd.zeroValue0
 t3 := Tryd.underlying3
 a3 := Tryd.isAgg3
 z3 := Tryd.sizeOf3
 v3 := Tryd.zeroValue3
 t4 := Tryd.underlying4
 a4 := Tryd.isAgg4
 z4 := Tryd.sizeOf4
 v4 := Tryd.zeroValue4
 t5 := Tryd.underlying5
 a5 := Tryd.isAgg5
 z5 := Tryd.sizeOf5
 v5 := Tryd.zeroValue5
 t9 := Tryd.underlying9
 a9 := Tryd.isAgg9
 z9 := Tryd.sizeOf9
 v9 := Tryd.zeroValue9
 t21 := Tryd.underlying21
 a21 := Tryd.isAgg21
 z21 := Tryd.sizeOf21
 v21 := Tryd.zeroValue21
 t31 := Tryd.underlying39
 a31 := Tryd.isAgg39
 z31 := Tryd.sizeOf39
 v31 := Tryd.zeroValue39
 t46 := Tryd.underlying85
 a46 := Tryd.isAgg85
 z46 := Tryd.sizeOf85
 v46 := Tryd.zeroValue85
 t51 := Tryd.underlying128
 a51 := Tryd.isAgg128
 z51 := Tryd.sizeOf128
 v51 := Tryd.zeroValue128
 t105 := Tryd.underlying102
 a105 := Tryd.isAgg102
 z105 := Tryd.sizeOf102
 v105 := Tryd.zeroValue102
 t119 := Tryd.underlying124
 a119 := Tryd.isAgg124
 z119 := Tryd.sizeOf124
 t138 := Tryd.underlying126
 a138 := Tryd.isAgg126
 z138 := Tryd.sizeOf126
 v138 := Tryd.zeroValue126
 t139 := Tryd.underlying127
 a139 := Tryd.isAgg127
 z139 := Tryd.sizeOf127
 v139 := Tryd.zeroValue127
 t146 := Tryd.underlying129
 a146 := Tryd.isAgg129
 z146 := Tryd.sizeOf129
 v146 := Tryd.zeroValue129
 g1 := by kernel_rfl
 g3 := by kernel_rfl
 g4 := by kernel_rfl }
open Go.RowKit Go.Lib in
theorem Tryd.strings_SplitN (s sep : ByteArray) (n : Nat) (m : Int) (w : World) (hs : s.size < 4294967281) (hm : w.cell? ⟨0, 0, none⟩ = some (.int .i64 m)) (h1 : 1 ≤ sep.size) (hn : 1 ≤ n) (hn63 : n ≤ 9223372036854775807) :
  Calls Tryd.prog 52 #[.string s, .string sep, .int .i64 n] w fun e w' =>
   e = .returned (.slice (some ⟨w.heap.size, 0, none⟩) (Lib.splitB sep 0 (min n (s.size + 1) - 1) s).length (min n (s.size + 1))) ∧ w' = w.alloc (.cells (Lib.cellsOf (Lib.splitB sep 0 (min n (s.size + 1) - 1) s) (min n (s.size + 1))) 9) := Any.strings_SplitN Tryd.lays147 (by kernel_rfl) s sep n m w hs hm h1 hn hn63
end Go.Proofs
namespace Go.Proofs.YtjebkmfljcanlaaDoor.Q
open Go Go.RowKit
def Tab_ (w : World) : Prop := (Lib.TabIs Tryd.prog w "internal/strconv.uint64pow10" .u64 Lib.pow10Tab) ∧ (∃ m : Int, w.cell? ⟨0, 0, none⟩ = some (.int .i64 m))
theorem bt_ {w w' : World} (h : Tab_ w) (hb : Below w.heap.size w w') : Tab_ w' := by
 obtain ⟨h1, h2⟩ := h
 refine ⟨?_, ?_⟩
 ·have h3 := h1
  unfold Lib.TabIs World.var? at h3
  obtain ⟨g, hg, h4⟩ := Option.bind_eq_some_iff.1 h3
  refine var?_below hb hg ?_ h1
  split at h4
  ·rename_i hh
   exact (Array.getElem?_eq_some_iff.1 hh).1
  ·cases h4
 ·obtain ⟨m, hm⟩ := h2
  exact ⟨m, (hb.cell (bl_ w _ hm)).trans hm⟩
end Go.Proofs.YtjebkmfljcanlaaDoor.Q
namespace Go.Proofs.YtjebkmfljcanlaaDoor.Q
open Go.RowKit Go.Proofs.YtjebkmfljcanlaaDoorW.PrintWords Go.Proofs.YtjebkmfljcanlaaDoorW.PrintLast Go.Proofs.YtjebkmfljcanlaaDoorW.PrintMore
attribute [local go_sem] aM_ aL_ aS_ aR_ aE_ aC_ aN_ aO_
def strings_Split.f (a0 : ByteArray) (a1 : ByteArray) : Option (List ByteArray) := if a0.size < 4294967281 ∧ 1 ≤ a1.size then some (Go.Lib.splitB a1 0 (Go.Lib.countB a0 a1) a0) else none
theorem strings_Split.calls (a0 : ByteArray) (a1 : ByteArray) (r : List ByteArray) (w : World) (hTab_ : Tab_ w) (h : strings_Split.f a0 a1 = some r) :
  Calls Tryd.prog 28 #[.string a0, .string a1] w fun e w' => ∃ v0_ : Value, e = .returned (v0_) ∧ Kd.R Kd.string 9 w' w.heap.size (fun _ => True) v0_ r ∧ Below w.heap.size w w' := by
 unfold strings_Split.f at h
 split at h
 case isFalse => cases h
 rename_i hc
 obtain ⟨hs, h1⟩ := hc
 obtain rfl := Option.some.inj h
 obtain ⟨m, hm⟩ := hTab_.2
 refine (Go.Proofs.Tryd.strings_Split a0 a1 m w hs hm h1).mono ?_
 rintro e w' ⟨rfl, rfl⟩
 have hlen := Go.Lib.splitB_all a1 h1 0 (Go.Lib.countB a0 a1) a0 rfl
 obtain ⟨l, hl⟩ : ∃ l, l = Go.Lib.splitB a1 0 (Go.Lib.countB a0 a1) a0 := ⟨_, rfl⟩
 rw [← hl] at hlen ⊢
 have hsz : Go.Lib.countB a0 a1 + 1 = l.length := hlen.symm
 rw [hsz]
 have hll : l.length ≤ 9223372036854775807 := by
  have := Go.Lib.countB_le a1 h1 a0.size a0 (Nat.le_refl _)
  omega
 refine ⟨_, rfl, ⟨fun _ _ => trivial, l.map Value.string, ?_, ?_⟩, bA_ (Below.refl _ _) _⟩
 ·have h2 := World.ownsRow_lit (base := w.heap.size) (e := 9) (size := Kd.string.sz) w (l.map Value.string).toArray l.length (Nat.le_refl _) (by simpa [maxLen] using hll) (by show _ = l.length * 1; simp)
  simpa using h2
 ·refine ⟨by show _ = l.length * 1; simp, fun j p hj => ?_⟩
  show ((l.map Value.string).drop (j * 1)).take 1 = [Value.string p]
  obtain ⟨hj1, hj2⟩ := List.getElem?_eq_some_iff.1 hj
  rw [Nat.mul_one, ← List.map_drop, ← List.map_take, List.drop_eq_getElem_cons hj1, List.take_succ_cons, List.take_zero, hj2]
  rfl
def aP_.f (a0 : Int) (a1 : Int) : Option (ByteArray) := if a1 = 10 ∧ -9223372036854775808 ≤ a0 ∧ a0 ≤ 9223372036854775807 then some (⟨(Go.Lib.itoa a0).toArray⟩ : ByteArray) else none
theorem aP_.calls (a0 : Int) (a1 : Int) (r : ByteArray) (w : World) (hTab_ : Tab_ w) (h : aP_.f a0 a1 = some r) :
  Calls Tryd.prog 79 #[.int .i64 a0, .int .i64 a1] w fun e w' => e = .returned (.string r) ∧ Below w.heap.size w w' := by
 unfold aP_.f at h
 split at h
 case isFalse => cases h
 rename_i hc
 obtain ⟨rfl, h0, h1⟩ := hc
 obtain rfl := Option.some.inj h
 refine (Go.Proofs.Tryd.strconv_FormatInt_10 a0 h0 h1 w hTab_.1).mono ?_
 rintro e w' ⟨rfl, k, os, rfl⟩
 exact ⟨rfl, Go.Lib.below_grow _ _ (Nat.le_refl _) _ _⟩
def bb_.f (a0 : Int) : Option (ByteArray) := (aP_.f a0 10).bind fun t101 => (some t101)
set_option maxHeartbeats 8000000 in
set_option maxRecDepth 100000 in
theorem bb_.calls (a0 : Int) (r : ByteArray) (w : World) (hTab_ : Tab_ w) (h : bb_.f a0 = some r) :
  Calls Tryd.prog 59 #[.int .i64 a0] w fun e w' => e = .returned (.string r) ∧ Below w.heap.size w w' := by
 have HTab_ := Aside0.mk hTab_
 clear hTab_
 have HB := Aside0.mk (Below.refl w.heap.size w)
 have H : ((aP_.f a0 10).bind fun t101 => (some t101)) = some r := h
 clear h
 replace H := Option.bind_eq_some_iff.mp H
 obtain ⟨t101, A20, H⟩ := H
 (try dsimp only at H)
 have A2 := Aside0.mk A20
 clear A20
 obtain rfl := Option.some.inj H
 go_enter Tryd.func59, Tryd.ntmps59
 go_wp2_with (first | ((with_reducible refine ax_ (f := 79) rfl ?_); refine aX_ (some 4) rfl rfl Tryd.func79 (by kernel_rfl) rfl #[.int .i64 a0, .int .i64 10] rfl (by first | rfl | (simp only [List.map_toArray, List.map_cons, List.map_nil]; first | done | rfl)) ?_; (with_reducible refine (aP_.calls a0 10 t101 _ ?side1 A2.out).mono ?_); (case side1 => exact bt_ HTab_.out (bz HB.out)); rintro e w3 ⟨rfl, hb⟩; refine ⟨_, rfl, ?_⟩; replace HB := Aside0.mk (ay_ (bz HB.out) hb); (try clear hb)))
 go_ret
 exact ⟨by first | rfl | (simp [*, aq_, ar_] <;> rfl), bz HB.out⟩
def bn_.f (a0 : Int) (a1 : Int) (a2 : Int) : Option (Bool) := if a0 ≥ a1 then (some (decide (a0 ≤ a2))) else (some false)
set_option maxHeartbeats 8000000 in
set_option maxRecDepth 100000 in
theorem bn_.calls (a0 : Int) (a1 : Int) (a2 : Int) (r : Bool) (w : World) (h : bn_.f a0 a1 a2 = some r) :
  Calls Tryd.prog 35 #[.int .i64 a0, .int .i64 a1, .int .i64 a2] w fun e w' => e = .returned (.bool r) ∧ af_ w w' := by
 have H : (if a0 ≥ a1 then (some (decide (a0 ≤ a2))) else (some false)) = some r := h
 clear h
 by_cases c4 : a0 ≥ a1
 rotate_left
 ·rw [if_neg c4] at H
  have c4b0 : decide (a1 ≤ a0) = false := decide_eq_false c4
  clear c4
  obtain rfl := Option.some.inj H
  go_enter Tryd.func35, Tryd.ntmps35
  go_wp2
  go_ret
  exact ⟨by first | rfl | (simp; done) | (simp [*]; done), by repeat (first | exact af_.refl _ | apply af_.step)⟩
 rw [if_pos c4] at H
 have c4b0 : decide (a1 ≤ a0) = true := decide_eq_true c4
 clear c4
 obtain rfl := Option.some.inj H
 go_enter Tryd.func35, Tryd.ntmps35
 go_wp2
 go_ret
 exact ⟨by first | rfl | (simp; done) | (simp [*]; done), by repeat (first | exact af_.refl _ | apply af_.step)⟩
mutual
def az_.l0 : Nat → ByteArray → Int → Int → Option (Int)
 | 0, _, _, _ => none
 | k + 1, x0, x5, x6 => if x6 < (x0.size : Int) then (if 0 ≤ x6 then (az_.l1 k x0 (Go.bits .xor .i64 x5 (wrap64 ((wrap64 (bt x0 x6)) * 256))) x6 0) else (none)) else (some x5)
def az_.l1 : Nat → ByteArray → Int → Int → Int → Option (Int)
 | 0, _, _, _, _ => none
 | k + 1, x0, x5, x6, x7 => if x7 < 8 then (if (wrap64 (x5 * 2)) > 65535 then (az_.l1 k x0 (Go.bits .xor .i64 (Go.bits .and .i64 (wrap64 (x5 * 2)) 65535) 4129) x6 (wrap64 (x7 + 1))) else (az_.l1 k x0 (wrap64 (x5 * 2)) x6 (wrap64 (x7 + 1)))) else (az_.l0 k x0 x5 (wrap64 (x6 + 1)))
end
def az_.f (k : Nat) (a0 : ByteArray) (a1 : Int) : Option (Int) := (bn_.f a1 0 65535).bind fun t101 => (if t101 = true then (az_.l0 k a0 a1 0) else (some 0))
set_option maxHeartbeats 8000000 in
set_option maxRecDepth 100000 in
theorem az_.calls (k : Nat) (a0 : ByteArray) (a1 : Int) (r : Int) (w : World) (h : az_.f k a0 a1 = some r) :
  Calls Tryd.prog 74 #[.string a0, .int .i64 a1] w fun e w' => e = .returned (.int .i64 r) ∧ af_ w w' := by
 have H : ((bn_.f a1 0 65535).bind fun t101 => (if t101 = true then (az_.l0 k a0 a1 0) else (some 0))) = some r := h
 clear h
 replace H := Option.bind_eq_some_iff.mp H
 obtain ⟨t101, A30, H⟩ := H
 (try dsimp only at H)
 have A3 := Aside0.mk A30
 clear A30
 have HC4 := Aside0.mk H
 clear H
 go_enter Tryd.func74, Tryd.ntmps74
 go_upto_if 10 with (first | ((with_reducible refine ax_ (f := 35) rfl ?_); refine aX_ (some 9) rfl rfl Tryd.func35 (by kernel_rfl) rfl #[.int .i64 a1, .int .i64 0, .int .i64 65535] rfl (by first | rfl | (simp only [List.map_toArray, List.map_cons, List.map_nil]; first | done | rfl)) ?_; (with_reducible refine (bn_.calls a1 0 65535 t101 _ A3.out).mono ?_); rintro e w' ⟨rfl, ⟨nd, rfl⟩⟩; refine ⟨_, rfl, ?_⟩))
 (try simp only [Act.put, lsa_, ls0_, ls1_])
 have H := HC4.out
 clear HC4
 by_cases c5 : t101 = true
 rotate_left
 ·replace c5 := Bool.eq_false_iff.mpr c5
  subst c5
  have H1 : (some 0) = some r := by rw [if_neg (show ¬ (false = true) by decide)] at H; exact H
  clear H
  have H := H1
  clear H1
  obtain rfl := Option.some.inj H
  go_wp2
  go_ret
  exact ⟨by first | rfl | (simp; done) | (simp [*]; done), by repeat (first | exact af_.refl _ | apply af_.step)⟩
 subst c5
 have H1 : (az_.l0 k a0 a1 0) = some r := by rw [if_pos rfl] at H; exact H
 clear H
 have H := H1
 clear H1
 have H' := Aside0.mk H
 clear H
 go_wp2
 (try simp only [Act.put, lsa_, ls0_, ls1_])
 go_loopg [5, 6] k (fun kq v5 v6 w' => ∃ (x5_1 : Int) (x6_1 : Int), v5 = .int .i64 x5_1 ∧ v6 = .int .i64 x6_1 ∧ Aside0 (az_.l0 kq a0 x5_1 x6_1 = some r) ∧ Aside0 (kq ≤ k) ∧ af_ w w')
 case atStart => exact ⟨(a1), (0), (by first | rfl | (simp; done) | (simp [*]; done)), (by first | rfl | (simp; done) | (simp [*]; done)), H', ⟨Nat.le_refl _⟩, by repeat (first | exact af_.refl _ | apply af_.step)⟩
 case round =>
  clear H'
  obtain ⟨x5_1, x6_1, rfl, rfl, HA, HK1, ⟨m1, rfl⟩⟩ := hrel
  cases gk with
  | zero => exact absurd HA.out (by simp [az_.l0])
  | succ k1 =>
   have H := HA.out
   clear HA
   simp only [az_.l0] at H
   by_cases c6 : x6_1 < (a0.size : Int)
   rotate_left
   ·rw [if_neg c6] at H
    have c6b0 : decide (x6_1 < (a0.size : Int)) = false := decide_eq_false c6
    clear c6
    (first | rw [c6b0] | (simp only [i64_w, i32_w]; rw [c6b0]) | (simp only [c6b1, Bool.not_true, Bool.not_false]) | (simp only [c6b0, Bool.not_true, Bool.not_false]) | skip)
    obtain rfl := Option.some.inj H
    go_wp2
    go_ret
    exact ⟨by first | rfl | (simp; done) | (simp [*]; done), by repeat (first | exact af_.refl _ | apply af_.step)⟩
   rw [if_pos c6] at H
   have c6b0 : decide (x6_1 < (a0.size : Int)) = true := decide_eq_true c6
   clear c6
   (first | rw [c6b0] | (simp only [i64_w, i32_w]; rw [c6b0]) | (simp only [c6b1, Bool.not_true, Bool.not_false]) | (simp only [c6b0, Bool.not_true, Bool.not_false]) | skip)
   by_cases c7 : 0 ≤ x6_1
   rotate_left
   ·rw [if_neg c7] at H
    exact absurd H (by simp)
   rw [if_pos c7] at H
   have c7b0 : decide (0 ≤ x6_1) = true := decide_eq_true c7
   clear c7
   have H' := Aside0.mk H
   clear H
   have p8 : 0 ≤ (x6_1 : Int) := of_decide_eq_true (by assumption)
   have q8 : x6_1 < (a0.size : Int) := of_decide_eq_true (by assumption)
   have hx8 := bt_at a0 x6_1
   replace p8 := eq_true p8
   replace q8 := eq_true q8
   go_wp2
   (try simp only [Act.put, lsa_, ls0_, ls1_])
   go_loopg [5, 7] k1 (fun kq v5 v7 w' => ∃ (x5_2 : Int) (x7_2 : Int), v5 = .int .i64 x5_2 ∧ v7 = .int .i64 x7_2 ∧ Aside0 (az_.l1 kq a0 x5_2 x6_1 x7_2 = some r) ∧ Aside0 (kq ≤ k1) ∧ af_ w w')
   case atStart => exact ⟨(Go.bits .xor .i64 x5_1 (wrap64 ((wrap64 (bt a0 x6_1)) * 256))), (0), (by first | rfl | (simp; done) | (simp [*]; done)), (by first | rfl | (simp; done) | (simp [*]; done)), H', ⟨Nat.le_refl _⟩, by repeat (first | exact af_.refl _ | apply af_.step)⟩
   case round =>
    clear H'
    obtain ⟨x5_2, x7_2, rfl, rfl, HA, HK2, ⟨m2, rfl⟩⟩ := hrel
    cases gk with
    | zero => exact absurd HA.out (by simp [az_.l1])
    | succ k2 =>
     have H := HA.out
     clear HA
     simp only [az_.l1] at H
     by_cases c9 : x7_2 < 8
     rotate_left
     ·rw [if_neg c9] at H
      have c9b0 : decide (x7_2 < 8) = false := decide_eq_false c9
      clear c9
      have H' := Aside0.mk H
      clear H
      go_wp2
      go_roundg k2
      case measure => have := HK1.out; have := HK2.out; omega
      case rel => exact ⟨(x5_2), (wrap64 (x6_1 + 1)), (by first | rfl | (simp; done) | (simp [*]; done)), (by first | rfl | (simp; done) | (simp [*]; done)), H', ⟨by have := HK1.out; have := HK2.out; omega⟩, by repeat (first | exact af_.refl _ | apply af_.step)⟩
     rw [if_pos c9] at H
     have c9b0 : decide (x7_2 < 8) = true := decide_eq_true c9
     clear c9
     by_cases c10 : (wrap64 (x5_2 * 2)) > 65535
     rotate_left
     ·rw [if_neg c10] at H
      have c10b0 : decide (65535 < (wrap64 (x5_2 * 2))) = false := decide_eq_false c10
      clear c10
      have H' := Aside0.mk H
      clear H
      go_wp2
      go_roundg k2
      case measure => have := HK1.out; have := HK2.out; omega
      case rel => exact ⟨(wrap64 (x5_2 * 2)), (wrap64 (x7_2 + 1)), (by first | rfl | (simp; done) | (simp [*]; done)), (by first | rfl | (simp; done) | (simp [*]; done)), H', ⟨by have := HK1.out; have := HK2.out; omega⟩, by repeat (first | exact af_.refl _ | apply af_.step)⟩
     rw [if_pos c10] at H
     have c10b0 : decide (65535 < (wrap64 (x5_2 * 2))) = true := decide_eq_true c10
     clear c10
     have H' := Aside0.mk H
     clear H
     go_wp2
     go_roundg k2
     case measure => have := HK1.out; have := HK2.out; omega
     case rel => exact ⟨(Go.bits .xor .i64 (Go.bits .and .i64 (wrap64 (x5_2 * 2)) 65535) 4129), (wrap64 (x7_2 + 1)), (by first | rfl | (simp; done) | (simp [*]; done)), (by first | rfl | (simp; done) | (simp [*]; done)), H', ⟨by have := HK1.out; have := HK2.out; omega⟩, by repeat (first | exact af_.refl _ | apply af_.step)⟩
def aQ_.f (k : Nat) (a0 : ByteArray) : Option (ByteArray) := (az_.f k a0 65535).bind fun t101 => ((bb_.f t101).bind fun t102 => (if 0 ≤ (t102.size : Int) then (if (t102.size : Int) ≤ 5 then (if ((⟨#[48, 48, 48, 48, 48]⟩ : ByteArray).extract ((t102.size : Int) : Int).toNat (⟨#[48, 48, 48, 48, 48]⟩ : ByteArray).size).size + t102.size ≤ 9223372036854775807 then (some (((⟨#[48, 48, 48, 48, 48]⟩ : ByteArray).extract ((t102.size : Int) : Int).toNat (⟨#[48, 48, 48, 48, 48]⟩ : ByteArray).size) ++ t102)) else (none)) else (none)) else (none)))
set_option maxHeartbeats 8000000 in
set_option maxRecDepth 100000 in
theorem aQ_.calls (k : Nat) (a0 : ByteArray) (r : ByteArray) (w : World) (hTab_ : Tab_ w) (h : aQ_.f k a0 = some r) :
  Calls Tryd.prog 51 #[.string a0] w fun e w' => e = .returned (.string r) ∧ Below w.heap.size w w' := by
 have HTab_ := Aside0.mk hTab_
 clear hTab_
 have HB := Aside0.mk (Below.refl w.heap.size w)
 have H : ((az_.f k a0 65535).bind fun t101 => ((bb_.f t101).bind fun t102 => (if 0 ≤ (t102.size : Int) then (if (t102.size : Int) ≤ 5 then (if ((⟨#[48, 48, 48, 48, 48]⟩ : ByteArray).extract ((t102.size : Int) : Int).toNat (⟨#[48, 48, 48, 48, 48]⟩ : ByteArray).size).size + t102.size ≤ 9223372036854775807 then (some (((⟨#[48, 48, 48, 48, 48]⟩ : ByteArray).extract ((t102.size : Int) : Int).toNat (⟨#[48, 48, 48, 48, 48]⟩ : ByteArray).size) ++ t102)) else (none)) else (none)) else (none)))) = some r := h
 clear h
 replace H := Option.bind_eq_some_iff.mp H
 obtain ⟨t101, A20, H⟩ := H
 (try dsimp only at H)
 have A2 := Aside0.mk A20
 clear A20
 replace H := Option.bind_eq_some_iff.mp H
 obtain ⟨t102, A30, H⟩ := H
 (try dsimp only at H)
 have A3 := Aside0.mk A30
 clear A30
 by_cases c4 : 0 ≤ (t102.size : Int)
 rotate_left
 ·rw [if_neg c4] at H
  exact absurd H (by simp)
 rw [if_pos c4] at H
 have c4b0 := eq_true c4
 have c4b1 : decide (0 ≤ (t102.size : Int)) = true := decide_eq_true c4
 clear c4
 by_cases c5 : (t102.size : Int) ≤ 5
 rotate_left
 ·rw [if_neg c5] at H
  exact absurd H (by simp)
 rw [if_pos c5] at H
 have c5b0 := eq_true c5
 have c5b1 : decide ((t102.size : Int) ≤ 5) = true := decide_eq_true c5
 clear c5
 by_cases c6 : ((⟨#[48, 48, 48, 48, 48]⟩ : ByteArray).extract ((t102.size : Int) : Int).toNat (⟨#[48, 48, 48, 48, 48]⟩ : ByteArray).size).size + t102.size ≤ 9223372036854775807
 rotate_left
 ·rw [if_neg c6] at H
  exact absurd H (by simp)
 rw [if_pos c6] at H
 have c6b0 := eq_true c6
 have c6b1 : decide (((⟨#[48, 48, 48, 48, 48]⟩ : ByteArray).extract ((t102.size : Int) : Int).toNat (⟨#[48, 48, 48, 48, 48]⟩ : ByteArray).size).size + t102.size ≤ 9223372036854775807) = true := decide_eq_true c6
 try have c6b2 : (9223372036854775807 < ((⟨#[48, 48, 48, 48, 48]⟩ : ByteArray).extract ((t102.size : Int) : Int).toNat (⟨#[48, 48, 48, 48, 48]⟩ : ByteArray).size).size + t102.size) = False := eq_false (Nat.not_lt.2 c6)
 obtain rfl := Option.some.inj H
 go_enter Tryd.func51, Tryd.ntmps51
 go_wp2_with (first | ((with_reducible refine ax_ (f := 74) rfl ?_); refine aX_ (some 5) rfl rfl Tryd.func74 (by kernel_rfl) rfl #[.string a0, .int .i64 65535] rfl (by first | rfl | (simp only [List.map_toArray, List.map_cons, List.map_nil]; first | done | rfl)) ?_; (with_reducible refine (az_.calls k a0 65535 t101 _ A2.out).mono ?_); rintro e w' ⟨rfl, ⟨nd, rfl⟩⟩; refine ⟨_, rfl, ?_⟩) | ((with_reducible refine ax_ (f := 59) rfl ?_); refine aX_ (some 6) rfl rfl Tryd.func59 (by kernel_rfl) rfl #[.int .i64 t101] rfl (by first | rfl | (simp only [List.map_toArray, List.map_cons, List.map_nil]; first | done | rfl)) ?_; (with_reducible refine (bb_.calls t101 t102 _ ?side1 A3.out).mono ?_); (case side1 => exact bt_ HTab_.out (bz HB.out)); rintro e w7 ⟨rfl, hb⟩; refine ⟨_, rfl, ?_⟩; replace HB := Aside0.mk (ay_ (bz HB.out) hb); (try clear hb)))
 go_ret
 exact ⟨by first | rfl | (simp [*, aq_, ar_] <;> rfl), bz HB.out⟩
def strings_SplitN.f (a0 : ByteArray) (a1 : ByteArray) (a2 : Int) : Option (List ByteArray) := if a0.size < 4294967281 ∧ 1 ≤ a1.size ∧ 1 ≤ a2 ∧ a2 ≤ 9223372036854775807 then some (Go.Lib.splitB a1 0 (min a2.toNat (a0.size + 1) - 1) a0) else none
theorem strings_SplitN.len (sep : ByteArray) (save : Nat) : ∀ (k : Nat) (s : ByteArray), (Go.Lib.splitB sep save k s).length ≤ k + 1
 | 0, s => by simp [Go.Lib.splitB]
 | k + 1, s => by
  unfold Go.Lib.splitB
  split
  ·simp
  ·have := strings_SplitN.len sep save k (s.extract ((Go.Lib.indexB s sep).toNat + sep.size) s.size)
   rw [List.length_cons]
   omega
theorem strings_SplitN.calls (a0 : ByteArray) (a1 : ByteArray) (a2 : Int) (r : List ByteArray) (w : World) (hTab_ : Tab_ w) (h : strings_SplitN.f a0 a1 a2 = some r) :
  Calls Tryd.prog 52 #[.string a0, .string a1, .int .i64 a2] w fun e w' => ∃ v0_ : Value, e = .returned (v0_) ∧ Kd.R Kd.string 9 w' w.heap.size (fun _ => True) v0_ r ∧ Below w.heap.size w w' := by
 unfold strings_SplitN.f at h
 split at h
 case isFalse => cases h
 rename_i hc
 obtain ⟨hs, h1, h2, h3⟩ := hc
 obtain rfl := Option.some.inj h
 obtain ⟨n, rfl⟩ := Int.eq_ofNat_of_zero_le (show 0 ≤ a2 by omega)
 obtain ⟨m, hm⟩ := hTab_.2
 rw [Int.toNat_natCast]
 refine (Go.Proofs.Tryd.strings_SplitN a0 a1 n m w hs hm h1 (by omega) (by omega)).mono ?_
 rintro e w' ⟨rfl, rfl⟩
 have hlen := strings_SplitN.len a1 0 (min n (a0.size + 1) - 1) a0
 obtain ⟨l, hl⟩ : ∃ l, l = Go.Lib.splitB a1 0 (min n (a0.size + 1) - 1) a0 := ⟨_, rfl⟩
 obtain ⟨c, hc⟩ : ∃ c, c = min n (a0.size + 1) := ⟨_, rfl⟩
 rw [← hc] at hl hlen
 rw [← hc, ← hl]
 rw [← hl] at hlen
 have hc1 : 1 ≤ c := by omega
 have hcm : c ≤ 9223372036854775807 := by omega
 have hlc : l.length ≤ c := by omega
 have hsz : (Go.Lib.cellsOf l c).size = c := by simp [Go.Lib.cellsOf]; omega
 refine ⟨_, rfl, ⟨fun _ _ => trivial, l.map Value.string, ⟨by show _ = l.length * 1; simp, .inr ⟨w.heap.size, c, Go.Lib.cellsOf l c, rfl, Nat.le_refl _, heap_alloc_new w _, hlc, by simpa [maxLen] using hcm, by show _ = c * 1; rw [hsz]; omega, ?_⟩⟩, ?_⟩, bA_ (Below.refl _ _) _⟩
 ·show (Go.Lib.cellsOf l c).toList.take (l.length * 1) = _
  rw [Nat.mul_one]
  simp [Go.Lib.cellsOf]
 ·refine ⟨by show _ = l.length * 1; simp, fun j p hj => ?_⟩
  show ((l.map Value.string).drop (j * 1)).take 1 = [Value.string p]
  obtain ⟨hj1, hj2⟩ := List.getElem?_eq_some_iff.1 hj
  rw [Nat.mul_one, ← List.map_drop, ← List.map_take, List.drop_eq_getElem_cons hj1, List.take_succ_cons, List.take_zero, hj2]
  rfl
mutual
def ae_.j0 : Nat → ByteArray → Bool → Option (Bool)
 | 0, _, _ => none
 | k + 1, x0, x21 => if x21 = true then (some false) else (ae_.l0 k x0 0)
def ae_.l0 : Nat → ByteArray → Int → Option (Bool)
 | 0, _, _ => none
 | k + 1, x0, x3 => if x3 < (x0.size : Int) then (if 0 ≤ x3 then (if (bt x0 x3) < 97 then (if (bt x0 x3) < 48 then (some false) else (if (bt x0 x3) > 57 then (some false) else (ae_.l0 k x0 (wrap64 (x3 + 1))))) else (if (bt x0 x3) > 122 then (if (bt x0 x3) < 48 then (some false) else (if (bt x0 x3) > 57 then (some false) else (ae_.l0 k x0 (wrap64 (x3 + 1))))) else (ae_.l0 k x0 (wrap64 (x3 + 1))))) else (none)) else (some true)
end
def ae_.f (k : Nat) (a0 : ByteArray) : Option (Bool) := if (a0.size : Int) < 1 then (ae_.j0 k a0 true) else (if (a0.size : Int) > 10 then (ae_.j0 k a0 true) else (if 0 < (a0.size : Int) then (if (bt a0 0) < 97 then (ae_.j0 k a0 true) else (ae_.j0 k a0 (decide ((bt a0 0) > 122)))) else (none)))
set_option maxHeartbeats 8000000 in
set_option maxRecDepth 100000 in
theorem ae_.calls (k : Nat) (a0 : ByteArray) (r : Bool) (w : World) (h : ae_.f k a0 = some r) :
  Calls Tryd.prog 75 #[.string a0] w fun e w' => e = .returned (.bool r) ∧ af_ w w' := by
 have H : (if (a0.size : Int) < 1 then (ae_.j0 k a0 true) else (if (a0.size : Int) > 10 then (ae_.j0 k a0 true) else (if 0 < (a0.size : Int) then (if (bt a0 0) < 97 then (ae_.j0 k a0 true) else (ae_.j0 k a0 (decide ((bt a0 0) > 122)))) else (none)))) = some r := h
 clear h
 have HC2 := Aside0.mk H
 clear H
 go_enter Tryd.func75, Tryd.ntmps75
 go_upto_region 1 with (fail)
 go_cut [21] (fun v21 wc => ∃ (kq : Nat) (x21_1 : Bool), v21 = .bool x21_1 ∧ Aside0 (ae_.j0 kq a0 x21_1 = some r) ∧ Aside0 (kq ≤ k) ∧ af_ w wc)
 case first =>
  have H := HC2.out
  clear HC2
  by_cases c3 : (a0.size : Int) < 1
  rotate_left
  ·rw [if_neg c3] at H
   have c3b0 : decide ((a0.size : Int) < 1) = false := decide_eq_false c3
   have c3b1 : decide (a0.size < 1) = false := decide_eq_false (by omega)
   clear c3
   (first | rw [c3b0] | (simp only [i64_w, i32_w]; rw [c3b0]) | (simp only [c3b1, Bool.not_true, Bool.not_false]) | (simp only [c3b0, Bool.not_true, Bool.not_false]) | skip)
   by_cases c4 : (a0.size : Int) > 10
   rotate_left
   ·rw [if_neg c4] at H
    have c4b0 : decide (10 < (a0.size : Int)) = false := decide_eq_false c4
    have c4b1 : decide (10 < a0.size) = false := decide_eq_false (by omega)
    clear c4
    by_cases c5 : 0 < (a0.size : Int)
    rotate_left
    ·rw [if_neg c5] at H
     exact absurd H (by simp)
    rw [if_pos c5] at H
    have c5b0 : decide (0 < (a0.size : Int)) = true := decide_eq_true c5
    have c5b1 : decide (0 < a0.size) = true := decide_eq_true (by omega)
    clear c5
    by_cases c7 : (bt a0 0) < 97
    rotate_left
    ·rw [if_neg c7] at H
     have c7b0 : decide ((bt a0 0) < 97) = false := decide_eq_false c7
     clear c7
     have H' := Aside0.mk H
     clear H
     have p6 : 0 ≤ (0 : Int) := (by omega)
     have q6 : 0 < a0.size := (by have : (0 : Int) < (a0.size : Int) := of_decide_eq_true (by assumption); omega)
     have hx6 : ∀ h : 0 < a0.size, ((a0[0]'h).toNat : Int) = bt a0 0 := bt_at a0 0
     clear p6
     have qi6 : (0 < (a0.size : Int)) = True := eq_true (of_decide_eq_true (by assumption))
     replace q6 := eq_true q6
     have p8 : 0 ≤ (0 : Int) := (by omega)
     have q8 : 0 < a0.size := (by have : (0 : Int) < (a0.size : Int) := of_decide_eq_true (by assumption); omega)
     have hx8 : ∀ h : 0 < a0.size, ((a0[0]'h).toNat : Int) = bt a0 0 := bt_at a0 0
     clear p8
     have qi8 : (0 < (a0.size : Int)) = True := eq_true (of_decide_eq_true (by assumption))
     replace q8 := eq_true q8
     go_wp2
     go_meet
     case rel => exact ⟨_, (decide ((bt a0 0) > 122)), (by first | rfl | (simp; done) | (simp [*]; done)), H', ⟨by first | omega | exact Nat.le_refl _⟩, by repeat (first | exact af_.refl _ | apply af_.step)⟩
    rw [if_pos c7] at H
    have c7b0 : decide ((bt a0 0) < 97) = true := decide_eq_true c7
    clear c7
    have H' := Aside0.mk H
    clear H
    have p6 : 0 ≤ (0 : Int) := (by omega)
    have q6 : 0 < a0.size := (by have : (0 : Int) < (a0.size : Int) := of_decide_eq_true (by assumption); omega)
    have hx6 : ∀ h : 0 < a0.size, ((a0[0]'h).toNat : Int) = bt a0 0 := bt_at a0 0
    clear p6
    have qi6 : (0 < (a0.size : Int)) = True := eq_true (of_decide_eq_true (by assumption))
    replace q6 := eq_true q6
    go_wp2
    go_meet
    case rel => exact ⟨_, (true), (by first | rfl | (simp; done) | (simp [*]; done)), H', ⟨by first | omega | exact Nat.le_refl _⟩, by repeat (first | exact af_.refl _ | apply af_.step)⟩
   rw [if_pos c4] at H
   have c4b0 : decide (10 < (a0.size : Int)) = true := decide_eq_true c4
   have c4b1 : decide (10 < a0.size) = true := decide_eq_true (by omega)
   clear c4
   have H' := Aside0.mk H
   clear H
   go_wp2
   go_meet
   case rel => exact ⟨_, (true), (by first | rfl | (simp; done) | (simp [*]; done)), H', ⟨by first | omega | exact Nat.le_refl _⟩, by repeat (first | exact af_.refl _ | apply af_.step)⟩
  rw [if_pos c3] at H
  have c3b0 : decide ((a0.size : Int) < 1) = true := decide_eq_true c3
  have c3b1 : decide (a0.size < 1) = true := decide_eq_true (by omega)
  clear c3
  (first | rw [c3b0] | (simp only [i64_w, i32_w]; rw [c3b0]) | (simp only [c3b1, Bool.not_true, Bool.not_false]) | (simp only [c3b0, Bool.not_true, Bool.not_false]) | skip)
  have H' := Aside0.mk H
  clear H
  go_wp2
  go_meet
  case rel => exact ⟨_, (true), (by first | rfl | (simp; done) | (simp [*]; done)), H', ⟨by first | omega | exact Nat.le_refl _⟩, by repeat (first | exact af_.refl _ | apply af_.step)⟩
 case rest =>
  clear HC2
  obtain ⟨kq, x21_1, rfl, HA, HJ1, ⟨mc1, rfl⟩⟩ := hcut
  cases kq with
  | zero => exact absurd HA.out (by simp [ae_.j0])
  | succ kj1 =>
   have H := HA.out
   clear HA
   simp only [ae_.j0] at H
   by_cases c9 : x21_1 = true
   rotate_left
   ·replace c9 := Bool.eq_false_iff.mpr c9
    subst c9
    have H1 : (ae_.l0 kj1 a0 0) = some r := by rw [if_neg (show ¬ (false = true) by decide)] at H; exact H
    clear H
    have H := H1
    clear H1
    have H' := Aside0.mk H
    clear H
    go_wp2
    (try simp only [Act.put, lsa_, ls0_, ls1_])
    go_loopg [3] kj1 (fun kq v3 w' => ∃ (x3_2 : Int), v3 = .int .i64 x3_2 ∧ Aside0 (ae_.l0 kq a0 x3_2 = some r) ∧ Aside0 (kq ≤ kj1) ∧ af_ w w')
    case atStart => exact ⟨(0), (by first | rfl | (simp; done) | (simp [*]; done)), H', ⟨Nat.le_refl _⟩, by repeat (first | exact af_.refl _ | apply af_.step)⟩
    case round =>
     clear H'
     obtain ⟨x3_2, rfl, HA, HK2, ⟨m2, rfl⟩⟩ := hrel
     cases gk with
     | zero => exact absurd HA.out (by simp [ae_.l0])
     | succ k2 =>
      have H := HA.out
      clear HA
      simp only [ae_.l0] at H
      by_cases c10 : x3_2 < (a0.size : Int)
      rotate_left
      ·rw [if_neg c10] at H
       have c10b0 : decide (x3_2 < (a0.size : Int)) = false := decide_eq_false c10
       clear c10
       obtain rfl := Option.some.inj H
       go_wp2
       go_ret
       exact ⟨by first | rfl | (simp; done) | (simp [*]; done), by repeat (first | exact af_.refl _ | apply af_.step)⟩
      rw [if_pos c10] at H
      have c10b0 : decide (x3_2 < (a0.size : Int)) = true := decide_eq_true c10
      clear c10
      by_cases c11 : 0 ≤ x3_2
      rotate_left
      ·rw [if_neg c11] at H
       exact absurd H (by simp)
      rw [if_pos c11] at H
      have c11b0 : decide (0 ≤ x3_2) = true := decide_eq_true c11
      clear c11
      by_cases c13 : (bt a0 x3_2) < 97
      rotate_left
      ·rw [if_neg c13] at H
       have c13b0 : decide ((bt a0 x3_2) < 97) = false := decide_eq_false c13
       clear c13
       by_cases c19 : (bt a0 x3_2) > 122
       rotate_left
       ·rw [if_neg c19] at H
        have c19b0 : decide (122 < (bt a0 x3_2)) = false := decide_eq_false c19
        clear c19
        have H' := Aside0.mk H
        clear H
        have p12 : 0 ≤ (x3_2 : Int) := of_decide_eq_true (by assumption)
        have q12 : x3_2 < (a0.size : Int) := of_decide_eq_true (by assumption)
        have hx12 := bt_at a0 x3_2
        replace p12 := eq_true p12
        replace q12 := eq_true q12
        have p18 : 0 ≤ (x3_2 : Int) := of_decide_eq_true (by assumption)
        have q18 : x3_2 < (a0.size : Int) := of_decide_eq_true (by assumption)
        have hx18 := bt_at a0 x3_2
        replace p18 := eq_true p18
        replace q18 := eq_true q18
        go_wp2
        go_roundg k2
        case measure => have := HJ1.out; have := HK2.out; omega
        case rel => exact ⟨(wrap64 (x3_2 + 1)), (by first | rfl | (simp; done) | (simp [*]; done)), H', ⟨by have := HJ1.out; have := HK2.out; omega⟩, by repeat (first | exact af_.refl _ | apply af_.step)⟩
       rw [if_pos c19] at H
       have c19b0 : decide (122 < (bt a0 x3_2)) = true := decide_eq_true c19
       clear c19
       by_cases c21 : (bt a0 x3_2) < 48
       rotate_left
       ·rw [if_neg c21] at H
        have c21b0 : decide ((bt a0 x3_2) < 48) = false := decide_eq_false c21
        clear c21
        by_cases c23 : (bt a0 x3_2) > 57
        rotate_left
        ·rw [if_neg c23] at H
         have c23b0 : decide (57 < (bt a0 x3_2)) = false := decide_eq_false c23
         clear c23
         have H' := Aside0.mk H
         clear H
         have p12 : 0 ≤ (x3_2 : Int) := of_decide_eq_true (by assumption)
         have q12 : x3_2 < (a0.size : Int) := of_decide_eq_true (by assumption)
         have hx12 := bt_at a0 x3_2
         replace p12 := eq_true p12
         replace q12 := eq_true q12
         have p18 : 0 ≤ (x3_2 : Int) := of_decide_eq_true (by assumption)
         have q18 : x3_2 < (a0.size : Int) := of_decide_eq_true (by assumption)
         have hx18 := bt_at a0 x3_2
         replace p18 := eq_true p18
         replace q18 := eq_true q18
         have p20 : 0 ≤ (x3_2 : Int) := of_decide_eq_true (by assumption)
         have q20 : x3_2 < (a0.size : Int) := of_decide_eq_true (by assumption)
         have hx20 := bt_at a0 x3_2
         replace p20 := eq_true p20
         replace q20 := eq_true q20
         have p22 : 0 ≤ (x3_2 : Int) := of_decide_eq_true (by assumption)
         have q22 : x3_2 < (a0.size : Int) := of_decide_eq_true (by assumption)
         have hx22 := bt_at a0 x3_2
         replace p22 := eq_true p22
         replace q22 := eq_true q22
         go_wp2
         go_roundg k2
         case measure => have := HJ1.out; have := HK2.out; omega
         case rel => exact ⟨(wrap64 (x3_2 + 1)), (by first | rfl | (simp; done) | (simp [*]; done)), H', ⟨by have := HJ1.out; have := HK2.out; omega⟩, by repeat (first | exact af_.refl _ | apply af_.step)⟩
        rw [if_pos c23] at H
        have c23b0 : decide (57 < (bt a0 x3_2)) = true := decide_eq_true c23
        clear c23
        obtain rfl := Option.some.inj H
        have p12 : 0 ≤ (x3_2 : Int) := of_decide_eq_true (by assumption)
        have q12 : x3_2 < (a0.size : Int) := of_decide_eq_true (by assumption)
        have hx12 := bt_at a0 x3_2
        replace p12 := eq_true p12
        replace q12 := eq_true q12
        have p18 : 0 ≤ (x3_2 : Int) := of_decide_eq_true (by assumption)
        have q18 : x3_2 < (a0.size : Int) := of_decide_eq_true (by assumption)
        have hx18 := bt_at a0 x3_2
        replace p18 := eq_true p18
        replace q18 := eq_true q18
        have p20 : 0 ≤ (x3_2 : Int) := of_decide_eq_true (by assumption)
        have q20 : x3_2 < (a0.size : Int) := of_decide_eq_true (by assumption)
        have hx20 := bt_at a0 x3_2
        replace p20 := eq_true p20
        replace q20 := eq_true q20
        have p22 : 0 ≤ (x3_2 : Int) := of_decide_eq_true (by assumption)
        have q22 : x3_2 < (a0.size : Int) := of_decide_eq_true (by assumption)
        have hx22 := bt_at a0 x3_2
        replace p22 := eq_true p22
        replace q22 := eq_true q22
        go_wp2
        go_ret
        exact ⟨by first | rfl | (simp; done) | (simp [*]; done), by repeat (first | exact af_.refl _ | apply af_.step)⟩
       rw [if_pos c21] at H
       have c21b0 : decide ((bt a0 x3_2) < 48) = true := decide_eq_true c21
       clear c21
       obtain rfl := Option.some.inj H
       have p12 : 0 ≤ (x3_2 : Int) := of_decide_eq_true (by assumption)
       have q12 : x3_2 < (a0.size : Int) := of_decide_eq_true (by assumption)
       have hx12 := bt_at a0 x3_2
       replace p12 := eq_true p12
       replace q12 := eq_true q12
       have p18 : 0 ≤ (x3_2 : Int) := of_decide_eq_true (by assumption)
       have q18 : x3_2 < (a0.size : Int) := of_decide_eq_true (by assumption)
       have hx18 := bt_at a0 x3_2
       replace p18 := eq_true p18
       replace q18 := eq_true q18
       have p20 : 0 ≤ (x3_2 : Int) := of_decide_eq_true (by assumption)
       have q20 : x3_2 < (a0.size : Int) := of_decide_eq_true (by assumption)
       have hx20 := bt_at a0 x3_2
       replace p20 := eq_true p20
       replace q20 := eq_true q20
       go_wp2
       go_ret
       exact ⟨by first | rfl | (simp; done) | (simp [*]; done), by repeat (first | exact af_.refl _ | apply af_.step)⟩
      rw [if_pos c13] at H
      have c13b0 : decide ((bt a0 x3_2) < 97) = true := decide_eq_true c13
      clear c13
      by_cases c15 : (bt a0 x3_2) < 48
      rotate_left
      ·rw [if_neg c15] at H
       have c15b0 : decide ((bt a0 x3_2) < 48) = false := decide_eq_false c15
       clear c15
       by_cases c17 : (bt a0 x3_2) > 57
       rotate_left
       ·rw [if_neg c17] at H
        have c17b0 : decide (57 < (bt a0 x3_2)) = false := decide_eq_false c17
        clear c17
        have H' := Aside0.mk H
        clear H
        have p12 : 0 ≤ (x3_2 : Int) := of_decide_eq_true (by assumption)
        have q12 : x3_2 < (a0.size : Int) := of_decide_eq_true (by assumption)
        have hx12 := bt_at a0 x3_2
        replace p12 := eq_true p12
        replace q12 := eq_true q12
        have p14 : 0 ≤ (x3_2 : Int) := of_decide_eq_true (by assumption)
        have q14 : x3_2 < (a0.size : Int) := of_decide_eq_true (by assumption)
        have hx14 := bt_at a0 x3_2
        replace p14 := eq_true p14
        replace q14 := eq_true q14
        have p16 : 0 ≤ (x3_2 : Int) := of_decide_eq_true (by assumption)
        have q16 : x3_2 < (a0.size : Int) := of_decide_eq_true (by assumption)
        have hx16 := bt_at a0 x3_2
        replace p16 := eq_true p16
        replace q16 := eq_true q16
        go_wp2
        go_roundg k2
        case measure => have := HJ1.out; have := HK2.out; omega
        case rel => exact ⟨(wrap64 (x3_2 + 1)), (by first | rfl | (simp; done) | (simp [*]; done)), H', ⟨by have := HJ1.out; have := HK2.out; omega⟩, by repeat (first | exact af_.refl _ | apply af_.step)⟩
       rw [if_pos c17] at H
       have c17b0 : decide (57 < (bt a0 x3_2)) = true := decide_eq_true c17
       clear c17
       obtain rfl := Option.some.inj H
       have p12 : 0 ≤ (x3_2 : Int) := of_decide_eq_true (by assumption)
       have q12 : x3_2 < (a0.size : Int) := of_decide_eq_true (by assumption)
       have hx12 := bt_at a0 x3_2
       replace p12 := eq_true p12
       replace q12 := eq_true q12
       have p14 : 0 ≤ (x3_2 : Int) := of_decide_eq_true (by assumption)
       have q14 : x3_2 < (a0.size : Int) := of_decide_eq_true (by assumption)
       have hx14 := bt_at a0 x3_2
       replace p14 := eq_true p14
       replace q14 := eq_true q14
       have p16 : 0 ≤ (x3_2 : Int) := of_decide_eq_true (by assumption)
       have q16 : x3_2 < (a0.size : Int) := of_decide_eq_true (by assumption)
       have hx16 := bt_at a0 x3_2
       replace p16 := eq_true p16
       replace q16 := eq_true q16
       go_wp2
       go_ret
       exact ⟨by first | rfl | (simp; done) | (simp [*]; done), by repeat (first | exact af_.refl _ | apply af_.step)⟩
      rw [if_pos c15] at H
      have c15b0 : decide ((bt a0 x3_2) < 48) = true := decide_eq_true c15
      clear c15
      obtain rfl := Option.some.inj H
      have p12 : 0 ≤ (x3_2 : Int) := of_decide_eq_true (by assumption)
      have q12 : x3_2 < (a0.size : Int) := of_decide_eq_true (by assumption)
      have hx12 := bt_at a0 x3_2
      replace p12 := eq_true p12
      replace q12 := eq_true q12
      have p14 : 0 ≤ (x3_2 : Int) := of_decide_eq_true (by assumption)
      have q14 : x3_2 < (a0.size : Int) := of_decide_eq_true (by assumption)
      have hx14 := bt_at a0 x3_2
      replace p14 := eq_true p14
      replace q14 := eq_true q14
      go_wp2
      go_ret
      exact ⟨by first | rfl | (simp; done) | (simp [*]; done), by repeat (first | exact af_.refl _ | apply af_.step)⟩
   subst c9
   have H1 : (some false) = some r := by rw [if_pos rfl] at H; exact H
   clear H
   have H := H1
   clear H1
   obtain rfl := Option.some.inj H
   go_wp2
   go_ret
   exact ⟨by first | rfl | (simp; done) | (simp [*]; done), by repeat (first | exact af_.refl _ | apply af_.step)⟩
def strings_Contains.f (a0 : ByteArray) (a1 : ByteArray) : Option (Bool) := match a1.data.toList with
 | [c] => some (decide (0 ≤ Go.Lib.indexByte a0.data.toList c))
 | _ => none
theorem strings_Contains.calls (a0 : ByteArray) (a1 : ByteArray) (r : Bool) (w : World) (h : strings_Contains.f a0 a1 = some r) :
  Calls Tryd.prog 76 #[.string a0, .string a1] w fun e w' => e = .returned (.bool r) ∧ af_ w w' := by
 obtain ⟨d⟩ := a1
 obtain ⟨l⟩ := d
 match l, h with
 | [c], h =>
  obtain rfl := Option.some.inj h
  refine (Go.Proofs.Tryd.strings_Contains_one a0 c w).mono ?_
  rintro e w' ⟨rfl, rfl⟩
  exact ⟨rfl, af_.refl _⟩
def aH_.f (k : Nat) (a0_0 : ByteArray) (a0_1 : ByteArray) (a0_2 : ByteArray) : Option (Bool) := (ae_.f k a0_0).bind fun t102 => (if t102 = true then ((ae_.f k a0_1).bind fun t103 => (if t103 = true then (if (a0_2.size : Int) ≤ 400 then ((strings_Contains.f a0_2 (⟨#[10]⟩ : ByteArray)).bind fun t104 => (some (!t104))) else (some false)) else (some false))) else (some false))
set_option maxHeartbeats 8000000 in
set_option maxRecDepth 100000 in
theorem aH_.calls (k : Nat) (a0_0 : ByteArray) (a0_1 : ByteArray) (a0_2 : ByteArray) (r : Bool) (w : World) (h : aH_.f k a0_0 a0_1 a0_2 = some r) :
  Calls Tryd.prog 53 #[.agg #[.string a0_0, .string a0_1, .string a0_2]] w fun e w' => e = .returned (.bool r) ∧ Below w.heap.size w w' := by
 have hu43 := Tryd.underlying43
 have HB := Aside0.mk (Below.refl w.heap.size w)
 have H : ((ae_.f k a0_0).bind fun t102 => (if t102 = true then ((ae_.f k a0_1).bind fun t103 => (if t103 = true then (if (a0_2.size : Int) ≤ 400 then ((strings_Contains.f a0_2 (⟨#[10]⟩ : ByteArray)).bind fun t104 => (some (!t104))) else (some false)) else (some false))) else (some false))) = some r := h
 clear h
 replace H := Option.bind_eq_some_iff.mp H
 obtain ⟨t102, A20, H⟩ := H
 (try dsimp only at H)
 have A2 := Aside0.mk A20
 clear A20
 by_cases c3 : t102 = true
 rotate_left
 ·replace c3 := Bool.eq_false_iff.mpr c3
  subst c3
  have H1 : (some false) = some r := by rw [if_neg (show ¬ (false = true) by decide)] at H; exact H
  clear H
  have H := H1
  clear H1
  obtain rfl := Option.some.inj H
  go_enter Tryd.func53, Tryd.ntmps53
  go_wp2_with (first | ((with_reducible refine bf_ (N := 1) rfl ?_); (try (refine gate_guard (by rfl) ?_; dsimp only)); refine bs_ ?hg (N := 1) ?hd (cs := #[.string a0_0, .string a0_1, .string a0_2]) (t := 43) ?hr ?_; (case hd => rfl); (case hg => rfl); (case hr => (go_simp; try rfl)); intro gb101 hg w14 hbox hb; have BK101 := Aside0.mk (hbox); have GW101 := Aside0.mk ((by rw [hg]; exact (ao_ (bz HB.out)) : w.heap.size ≤ gb101)); have GE101 := Aside0.mk ((by rw [hg]; exact (ao_ (bz HB.out)) : w.heap.size ≤ gb101)); replace HB := Aside0.mk (ay_ (bz HB.out) hb); clear hb hbox hg; have hcz15_0 : w14.cell? ⟨gb101, 0, none⟩ = some (.string a0_0) := (an_ BK101.out 0).trans rfl; have hcz15_1 : w14.cell? ⟨gb101, 1, none⟩ = some (.string a0_1) := (an_ BK101.out 1).trans rfl; have hcz15_2 : w14.cell? ⟨gb101, 2, none⟩ = some (.string a0_2) := (an_ BK101.out 2).trans rfl; have hfz15_0 := ad_ BK101.out 0; have hfz15_1 := ad_ BK101.out 1; have hfz15_2 := ad_ BK101.out 2) | ((with_reducible refine ax_ (f := 75) rfl ?_); refine aX_ (some 5) rfl rfl Tryd.func75 (by kernel_rfl) rfl #[.string a0_0] rfl (by first | rfl | (simp only [List.map_toArray, List.map_cons, List.map_nil]; first | done | rfl)) ?_; (with_reducible refine (ae_.calls k a0_0 false _ A2.out).mono ?_); rintro e w' ⟨rfl, ⟨nd, rfl⟩⟩; refine ⟨_, rfl, ?_⟩))
  go_ret
  exact ⟨by first | rfl | (simp [*, aq_, ar_] <;> rfl), by repeat (first | (with_reducible first | exact HB.out | apply bA_ | apply bN_ | apply bD_ | refine am_ ?_ GE101.out) | exact HB.out)⟩
 subst c3
 have H1 : ((ae_.f k a0_1).bind fun t103 => (if t103 = true then (if (a0_2.size : Int) ≤ 400 then ((strings_Contains.f a0_2 (⟨#[10]⟩ : ByteArray)).bind fun t104 => (some (!t104))) else (some false)) else (some false))) = some r := by rw [if_pos rfl] at H; exact H
 clear H
 have H := H1
 clear H1
 replace H := Option.bind_eq_some_iff.mp H
 obtain ⟨t103, A40, H⟩ := H
 (try dsimp only at H)
 have A4 := Aside0.mk A40
 clear A40
 by_cases c5 : t103 = true
 rotate_left
 ·replace c5 := Bool.eq_false_iff.mpr c5
  subst c5
  have H1 : (some false) = some r := by rw [if_neg (show ¬ (false = true) by decide)] at H; exact H
  clear H
  have H := H1
  clear H1
  obtain rfl := Option.some.inj H
  go_enter Tryd.func53, Tryd.ntmps53
  go_wp2_with (first | ((with_reducible refine bf_ (N := 1) rfl ?_); (try (refine gate_guard (by rfl) ?_; dsimp only)); refine bs_ ?hg (N := 1) ?hd (cs := #[.string a0_0, .string a0_1, .string a0_2]) (t := 43) ?hr ?_; (case hd => rfl); (case hg => rfl); (case hr => (go_simp; try rfl)); intro gb101 hg w12 hbox hb; have BK101 := Aside0.mk (hbox); have GW101 := Aside0.mk ((by rw [hg]; exact (ao_ (bz HB.out)) : w.heap.size ≤ gb101)); have GE101 := Aside0.mk ((by rw [hg]; exact (ao_ (bz HB.out)) : w.heap.size ≤ gb101)); replace HB := Aside0.mk (ay_ (bz HB.out) hb); clear hb hbox hg; have hcz13_0 : w12.cell? ⟨gb101, 0, none⟩ = some (.string a0_0) := (an_ BK101.out 0).trans rfl; have hcz13_1 : w12.cell? ⟨gb101, 1, none⟩ = some (.string a0_1) := (an_ BK101.out 1).trans rfl; have hcz13_2 : w12.cell? ⟨gb101, 2, none⟩ = some (.string a0_2) := (an_ BK101.out 2).trans rfl; have hfz13_0 := ad_ BK101.out 0; have hfz13_1 := ad_ BK101.out 1; have hfz13_2 := ad_ BK101.out 2) | ((with_reducible refine ax_ (f := 75) rfl ?_); refine aX_ (some 5) rfl rfl Tryd.func75 (by kernel_rfl) rfl #[.string a0_0] rfl (by first | rfl | (simp only [List.map_toArray, List.map_cons, List.map_nil]; first | done | rfl)) ?_; (with_reducible refine (ae_.calls k a0_0 true _ A2.out).mono ?_); rintro e w' ⟨rfl, ⟨nd, rfl⟩⟩; refine ⟨_, rfl, ?_⟩) | (go_at_call 75; (with_reducible refine (ae_.calls k a0_1 false _ A4.out).mono ?_); rintro e w' ⟨rfl, ⟨nd, rfl⟩⟩))
  go_ret
  exact ⟨by first | rfl | (simp [*, aq_, ar_] <;> rfl), by repeat (first | (with_reducible first | exact HB.out | apply bA_ | apply bN_ | apply bD_ | refine am_ ?_ GE101.out) | exact HB.out)⟩
 subst c5
 have H1 : (if (a0_2.size : Int) ≤ 400 then ((strings_Contains.f a0_2 (⟨#[10]⟩ : ByteArray)).bind fun t104 => (some (!t104))) else (some false)) = some r := by rw [if_pos rfl] at H; exact H
 clear H
 have H := H1
 clear H1
 by_cases c6 : (a0_2.size : Int) ≤ 400
 rotate_left
 ·rw [if_neg c6] at H
  have c6b0 : decide ((a0_2.size : Int) ≤ 400) = false := decide_eq_false c6
  have c6b1 : decide (a0_2.size ≤ 400) = false := decide_eq_false (by omega)
  clear c6
  obtain rfl := Option.some.inj H
  go_enter Tryd.func53, Tryd.ntmps53
  go_wp2_with (first | ((with_reducible refine bf_ (N := 1) rfl ?_); (try (refine gate_guard (by rfl) ?_; dsimp only)); refine bs_ ?hg (N := 1) ?hd (cs := #[.string a0_0, .string a0_1, .string a0_2]) (t := 43) ?hr ?_; (case hd => rfl); (case hg => rfl); (case hr => (go_simp; try rfl)); intro gb101 hg w10 hbox hb; have BK101 := Aside0.mk (hbox); have GW101 := Aside0.mk ((by rw [hg]; exact (ao_ (bz HB.out)) : w.heap.size ≤ gb101)); have GE101 := Aside0.mk ((by rw [hg]; exact (ao_ (bz HB.out)) : w.heap.size ≤ gb101)); replace HB := Aside0.mk (ay_ (bz HB.out) hb); clear hb hbox hg; have hcz11_0 : w10.cell? ⟨gb101, 0, none⟩ = some (.string a0_0) := (an_ BK101.out 0).trans rfl; have hcz11_1 : w10.cell? ⟨gb101, 1, none⟩ = some (.string a0_1) := (an_ BK101.out 1).trans rfl; have hcz11_2 : w10.cell? ⟨gb101, 2, none⟩ = some (.string a0_2) := (an_ BK101.out 2).trans rfl; have hfz11_0 := ad_ BK101.out 0; have hfz11_1 := ad_ BK101.out 1; have hfz11_2 := ad_ BK101.out 2) | ((with_reducible refine ax_ (f := 75) rfl ?_); refine aX_ (some 5) rfl rfl Tryd.func75 (by kernel_rfl) rfl #[.string a0_0] rfl (by first | rfl | (simp only [List.map_toArray, List.map_cons, List.map_nil]; first | done | rfl)) ?_; (with_reducible refine (ae_.calls k a0_0 true _ A2.out).mono ?_); rintro e w' ⟨rfl, ⟨nd, rfl⟩⟩; refine ⟨_, rfl, ?_⟩) | (go_at_call 75; (with_reducible refine (ae_.calls k a0_1 true _ A4.out).mono ?_); rintro e w' ⟨rfl, ⟨nd, rfl⟩⟩))
  go_ret
  exact ⟨by first | rfl | (simp [*, aq_, ar_] <;> rfl), by repeat (first | (with_reducible first | exact HB.out | apply bA_ | apply bN_ | apply bD_ | refine am_ ?_ GE101.out) | exact HB.out)⟩
 rw [if_pos c6] at H
 have c6b0 : decide ((a0_2.size : Int) ≤ 400) = true := decide_eq_true c6
 have c6b1 : decide (a0_2.size ≤ 400) = true := decide_eq_true (by omega)
 clear c6
 replace H := Option.bind_eq_some_iff.mp H
 obtain ⟨t104, A70, H⟩ := H
 (try dsimp only at H)
 have A7 := Aside0.mk A70
 clear A70
 obtain rfl := Option.some.inj H
 go_enter Tryd.func53, Tryd.ntmps53
 go_wp2_with (first | ((with_reducible refine bf_ (N := 1) rfl ?_); (try (refine gate_guard (by rfl) ?_; dsimp only)); refine bs_ ?hg (N := 1) ?hd (cs := #[.string a0_0, .string a0_1, .string a0_2]) (t := 43) ?hr ?_; (case hd => rfl); (case hg => rfl); (case hr => (go_simp; try rfl)); intro gb101 hg w8 hbox hb; have BK101 := Aside0.mk (hbox); have GW101 := Aside0.mk ((by rw [hg]; exact (ao_ (bz HB.out)) : w.heap.size ≤ gb101)); have GE101 := Aside0.mk ((by rw [hg]; exact (ao_ (bz HB.out)) : w.heap.size ≤ gb101)); replace HB := Aside0.mk (ay_ (bz HB.out) hb); clear hb hbox hg; have hcz9_0 : w8.cell? ⟨gb101, 0, none⟩ = some (.string a0_0) := (an_ BK101.out 0).trans rfl; have hcz9_1 : w8.cell? ⟨gb101, 1, none⟩ = some (.string a0_1) := (an_ BK101.out 1).trans rfl; have hcz9_2 : w8.cell? ⟨gb101, 2, none⟩ = some (.string a0_2) := (an_ BK101.out 2).trans rfl; have hfz9_0 := ad_ BK101.out 0; have hfz9_1 := ad_ BK101.out 1; have hfz9_2 := ad_ BK101.out 2) | ((with_reducible refine ax_ (f := 75) rfl ?_); refine aX_ (some 5) rfl rfl Tryd.func75 (by kernel_rfl) rfl #[.string a0_0] rfl (by first | rfl | (simp only [List.map_toArray, List.map_cons, List.map_nil]; first | done | rfl)) ?_; (with_reducible refine (ae_.calls k a0_0 true _ A2.out).mono ?_); rintro e w' ⟨rfl, ⟨nd, rfl⟩⟩; refine ⟨_, rfl, ?_⟩) | (go_at_call 75; (with_reducible refine (ae_.calls k a0_1 true _ A4.out).mono ?_); rintro e w' ⟨rfl, ⟨nd, rfl⟩⟩) | (go_at_call 76; (with_reducible refine (strings_Contains.calls a0_2 (⟨#[10]⟩ : ByteArray) t104 _ A7.out).mono ?_); rintro e w' ⟨rfl, ⟨nd, rfl⟩⟩))
 go_ret
 exact ⟨by first | rfl | (simp [*, aq_, ar_] <;> rfl), by repeat (first | (with_reducible first | exact HB.out | apply bA_ | apply bN_ | apply bD_ | refine am_ ?_ GE101.out) | exact HB.out)⟩
def ai_.j0 : Nat → ByteArray → Bool → Option (ByteArray × ByteArray × ByteArray × Int)
 | 0, _, _ => none
 | k + 1, x0, x14 => if x14 = true then (some ((⟨#[]⟩ : ByteArray), (⟨#[]⟩ : ByteArray), (⟨#[]⟩ : ByteArray), 9)) else (if 6 ≤ (x0.size : Int) then ((some (x0.extract 6 x0.size : ByteArray)).bind fun y102 => (if 5 ≤ (x0.size : Int) then ((aQ_.f k y102).bind fun t104 => (if (x0.extract 0 5).toList = t104.toList then ((strings_SplitN.f y102 (⟨#[32]⟩ : ByteArray) 3).bind fun t105 => (if (t105.length : Int) < 3 then (some ((⟨#[]⟩ : ByteArray), (⟨#[]⟩ : ByteArray), (⟨#[]⟩ : ByteArray), 9)) else (if 0 < (t105.length : Int) then (if 1 < (t105.length : Int) then (if 2 < (t105.length : Int) then ((aH_.f k (rdOf ByteArray.empty t105 0) (rdOf ByteArray.empty t105 1) (rdOf ByteArray.empty t105 2)).bind fun t112 => (if t112 = true then (some (rdOf ByteArray.empty t105 0, rdOf ByteArray.empty t105 1, rdOf ByteArray.empty t105 2, 0)) else (some ((⟨#[]⟩ : ByteArray), (⟨#[]⟩ : ByteArray), (⟨#[]⟩ : ByteArray), 9)))) else (none)) else (none)) else (none)))) else (some ((⟨#[]⟩ : ByteArray), (⟨#[]⟩ : ByteArray), (⟨#[]⟩ : ByteArray), 10)))) else (none))) else (none))
def ai_.f (k : Nat) (a0 : ByteArray) : Option (ByteArray × ByteArray × ByteArray × Int) := if (a0.size : Int) < 6 then (ai_.j0 k a0 true) else (if 5 < (a0.size : Int) then (ai_.j0 k a0 ((bt a0 5) != 32)) else (none))
def ai_.T9 : Bool × List (List Nat × List Nat) := (true, [([], []), ([0], [0]), ([1], [1]), ([], []), ([3], [3]), ([4], [4]), ([], []), ([6], [6]), ([7], [7]), ([2, 5, 8], [2, 5, 8]), ([], []), ([10, 9, 0, 1, 2, 3, 4, 5, 6, 7, 8, 9, 10], [9, 10])])
def ai_.B9 : List Nat := [0, 1, 3, 0, 8, 24, 0, 64, 192, 511, 0, 2047]
theorem ai_.tab9 : rtab .any (opsOf Tryd.f29 9) = ai_.T9 := by kernel_rfl
theorem ai_.bits9 : waitsOk ai_.T9.2 ai_.B9 = true := by kernel_rfl
set_option maxHeartbeats 8000000 in
set_option maxRecDepth 100000 in
theorem ai_.calls (k : Nat) (a0 : ByteArray) (r1 : ByteArray) (r2 : ByteArray) (r3 : ByteArray) (r4 : Int) (w : World) (hTab_ : Tab_ w) (h : ai_.f k a0 = some (r1, r2, r3, r4)) :
  Calls Tryd.prog 29 #[.string a0] w fun e w' => e = .returned (.tuple #[.agg #[.string r1, .string r2, .string r3], .int .i64 r4]) ∧ Below w.heap.size w w' := by
 have hu43 := Tryd.underlying43
 have HTab_ := Aside0.mk hTab_
 clear hTab_
 have HB := Aside0.mk (Below.refl w.heap.size w)
 have H : (if (a0.size : Int) < 6 then (ai_.j0 k a0 true) else (if 5 < (a0.size : Int) then (ai_.j0 k a0 ((bt a0 5) != 32)) else (none))) = some (r1, r2, r3, r4) := h
 clear h
 have HC2 := Aside0.mk H
 clear H
 go_enter Tryd.func29, Tryd.ntmps29
 go_upto_region 1 with (first | ((with_reducible refine bf_ (N := 2) rfl ?_); refine bs_ ?hg (N := 2) ?hd (cs := #[.string (⟨#[]⟩ : ByteArray), .string (⟨#[]⟩ : ByteArray), .string (⟨#[]⟩ : ByteArray)]) (t := 43) ?hr ?_; (case hd => rfl); (case hg => rfl); (case hr => (go_simp; try rfl)); intro gb101 hg w3 hbox hb; have BK101 := Aside0.mk (hbox); have GW101 := Aside0.mk ((by rw [hg]; exact (ao_ (bz HB.out)) : w.heap.size ≤ gb101)); have GE101 := Aside0.mk ((by rw [hg]; exact (ao_ (bz HB.out)) : w.heap.size ≤ gb101)); replace HB := Aside0.mk (ay_ (bz HB.out) hb); clear hb hbox hg))
 (try simp only [Act.put, lsa_, ls0_, ls1_])
 go_cut [14] (fun v14 wc => ∃ (kq : Nat) (x14_1 : Bool), v14 = .bool x14_1 ∧ Aside0 (ai_.j0 kq a0 x14_1 = some (r1, r2, r3, r4)) ∧ Aside0 (kq ≤ k) ∧ Aside0 (wc.heap[gb101]? = some (.cells #[.string (⟨#[]⟩ : ByteArray), .string (⟨#[]⟩ : ByteArray), .string (⟨#[]⟩ : ByteArray)] 43 (0, 0))) ∧ Aside0 (Below w.heap.size w wc))
 case first =>
  have H := HC2.out
  clear HC2
  by_cases c4 : (a0.size : Int) < 6
  rotate_left
  ·rw [if_neg c4] at H
   have c4b0 : decide ((a0.size : Int) < 6) = false := decide_eq_false c4
   have c4b1 : decide (a0.size < 6) = false := decide_eq_false (by omega)
   clear c4
   (first | rw [c4b0] | (simp only [i64_w, i32_w]; rw [c4b0]) | (simp only [c4b1, Bool.not_true, Bool.not_false]) | (simp only [c4b0, Bool.not_true, Bool.not_false]) | skip)
   by_cases c5 : 5 < (a0.size : Int)
   rotate_left
   ·rw [if_neg c5] at H
    exact absurd H (by simp)
   rw [if_pos c5] at H
   have c5b0 : decide (5 < (a0.size : Int)) = true := decide_eq_true c5
   have c5b1 : decide (5 < a0.size) = true := decide_eq_true (by omega)
   clear c5
   have H' := Aside0.mk H
   clear H
   have p6 : 0 ≤ (5 : Int) := (by omega)
   have q6 : 5 < a0.size := (by have : (5 : Int) < (a0.size : Int) := of_decide_eq_true (by assumption); omega)
   have hx6 : ∀ h : 5 < a0.size, ((a0[5]'h).toNat : Int) = bt a0 5 := bt_at a0 5
   clear p6
   have qi6 : (5 < (a0.size : Int)) = True := eq_true (of_decide_eq_true (by assumption))
   replace q6 := eq_true q6
   go_wp2
   go_meet
   case rel => exact ⟨_, (((bt a0 5) != 32)), (by first | rfl | (simp; done) | (simp [*]; done)), H', ⟨by first | omega | exact Nat.le_refl _⟩, ⟨by (with_reducible repeat (first | refine ac_ ?_ _ | refine ah_ ?_ | refine ab_ ?_ _)); exact BK101.out⟩, ⟨by repeat (first | (with_reducible first | exact HB.out | apply bA_ | apply bN_ | apply bD_ | refine am_ ?_ GE101.out) | exact HB.out)⟩⟩
  rw [if_pos c4] at H
  have c4b0 : decide ((a0.size : Int) < 6) = true := decide_eq_true c4
  have c4b1 : decide (a0.size < 6) = true := decide_eq_true (by omega)
  clear c4
  (first | rw [c4b0] | (simp only [i64_w, i32_w]; rw [c4b0]) | (simp only [c4b1, Bool.not_true, Bool.not_false]) | (simp only [c4b0, Bool.not_true, Bool.not_false]) | skip)
  have H' := Aside0.mk H
  clear H
  go_wp2
  go_meet
  case rel => exact ⟨_, (true), (by first | rfl | (simp; done) | (simp [*]; done)), H', ⟨by first | omega | exact Nat.le_refl _⟩, ⟨by (with_reducible repeat (first | refine ac_ ?_ _ | refine ah_ ?_ | refine ab_ ?_ _)); exact BK101.out⟩, ⟨by repeat (first | (with_reducible first | exact HB.out | apply bA_ | apply bN_ | apply bD_ | refine am_ ?_ GE101.out) | exact HB.out)⟩⟩
 case rest =>
  clear HC2
  obtain ⟨kq, x14_1, rfl, HA, HJ1, BK101, HB⟩ := hcut
  cases kq with
  | zero => exact absurd HA.out (by simp [ai_.j0])
  | succ kj1 =>
   have H := HA.out
   clear HA
   simp only [ai_.j0] at H
   by_cases c7 : x14_1 = true
   rotate_left
   ·replace c7 := Bool.eq_false_iff.mpr c7
    subst c7
    have H1 : (if 6 ≤ (a0.size : Int) then ((some (a0.extract 6 a0.size : ByteArray)).bind fun y102 => (if 5 ≤ (a0.size : Int) then ((aQ_.f kj1 y102).bind fun t104 => (if (a0.extract 0 5).toList = t104.toList then ((strings_SplitN.f y102 (⟨#[32]⟩ : ByteArray) 3).bind fun t105 => (if (t105.length : Int) < 3 then (some ((⟨#[]⟩ : ByteArray), (⟨#[]⟩ : ByteArray), (⟨#[]⟩ : ByteArray), 9)) else (if 0 < (t105.length : Int) then (if 1 < (t105.length : Int) then (if 2 < (t105.length : Int) then ((aH_.f kj1 (rdOf ByteArray.empty t105 0) (rdOf ByteArray.empty t105 1) (rdOf ByteArray.empty t105 2)).bind fun t112 => (if t112 = true then (some (rdOf ByteArray.empty t105 0, rdOf ByteArray.empty t105 1, rdOf ByteArray.empty t105 2, 0)) else (some ((⟨#[]⟩ : ByteArray), (⟨#[]⟩ : ByteArray), (⟨#[]⟩ : ByteArray), 9)))) else (none)) else (none)) else (none)))) else (some ((⟨#[]⟩ : ByteArray), (⟨#[]⟩ : ByteArray), (⟨#[]⟩ : ByteArray), 10)))) else (none))) else (none)) = some (r1, r2, r3, r4) := by rw [if_neg (show ¬ (false = true) by decide)] at H; exact H
    clear H
    have H := H1
    clear H1
    by_cases c9 : 6 ≤ (a0.size : Int)
    rotate_left
    ·rw [if_neg c9] at H
     exact absurd H (by simp)
    rw [if_pos c9] at H
    have c9b0 := eq_true c9
    have c9b1 : decide (6 ≤ (a0.size : Int)) = true := decide_eq_true c9
    clear c9
    obtain ⟨y102, hy102⟩ : ∃ y_ : ByteArray, y_ = (a0.extract 6 a0.size) := ⟨_, rfl⟩
    replace H : (if 5 ≤ (a0.size : Int) then ((aQ_.f kj1 y102).bind fun t104 => (if (a0.extract 0 5).toList = t104.toList then ((strings_SplitN.f y102 (⟨#[32]⟩ : ByteArray) 3).bind fun t105 => (if (t105.length : Int) < 3 then (some ((⟨#[]⟩ : ByteArray), (⟨#[]⟩ : ByteArray), (⟨#[]⟩ : ByteArray), 9)) else (if 0 < (t105.length : Int) then (if 1 < (t105.length : Int) then (if 2 < (t105.length : Int) then ((aH_.f kj1 (rdOf ByteArray.empty t105 0) (rdOf ByteArray.empty t105 1) (rdOf ByteArray.empty t105 2)).bind fun t112 => (if t112 = true then (some (rdOf ByteArray.empty t105 0, rdOf ByteArray.empty t105 1, rdOf ByteArray.empty t105 2, 0)) else (some ((⟨#[]⟩ : ByteArray), (⟨#[]⟩ : ByteArray), (⟨#[]⟩ : ByteArray), 9)))) else (none)) else (none)) else (none)))) else (some ((⟨#[]⟩ : ByteArray), (⟨#[]⟩ : ByteArray), (⟨#[]⟩ : ByteArray), 10)))) else (none)) = some (r1, r2, r3, r4) := by first | (rw [hy102]; with_reducible exact H) | (have H2_ := (Option.bind_some _ _).symm.trans H; rw [hy102]; with_reducible exact H2_) | (have H2_ := (Option.bind_some _ _).symm.trans H; with_reducible exact H2_) | with_reducible exact H | (rw [hy102]; exact H) | exact H
    have Ny102 := Aside0.mk hy102
    clear hy102
    have Sy102 := Ny102.out.symm
    by_cases c10 : 5 ≤ (a0.size : Int)
    rotate_left
    ·rw [if_neg c10] at H
     exact absurd H (by simp)
    rw [if_pos c10] at H
    have c10b0 := eq_true c10
    have c10b1 : decide (5 ≤ (a0.size : Int)) = true := decide_eq_true c10
    clear c10
    obtain ⟨y103, hy103⟩ : ∃ y_ : ByteArray, y_ = (a0.extract 0 5) := ⟨_, rfl⟩
    replace H : ((aQ_.f kj1 y102).bind fun t104 => (if y103.toList = t104.toList then ((strings_SplitN.f y102 (⟨#[32]⟩ : ByteArray) 3).bind fun t105 => (if (t105.length : Int) < 3 then (some ((⟨#[]⟩ : ByteArray), (⟨#[]⟩ : ByteArray), (⟨#[]⟩ : ByteArray), 9)) else (if 0 < (t105.length : Int) then (if 1 < (t105.length : Int) then (if 2 < (t105.length : Int) then ((aH_.f kj1 (rdOf ByteArray.empty t105 0) (rdOf ByteArray.empty t105 1) (rdOf ByteArray.empty t105 2)).bind fun t112 => (if t112 = true then (some (rdOf ByteArray.empty t105 0, rdOf ByteArray.empty t105 1, rdOf ByteArray.empty t105 2, 0)) else (some ((⟨#[]⟩ : ByteArray), (⟨#[]⟩ : ByteArray), (⟨#[]⟩ : ByteArray), 9)))) else (none)) else (none)) else (none)))) else (some ((⟨#[]⟩ : ByteArray), (⟨#[]⟩ : ByteArray), (⟨#[]⟩ : ByteArray), 10)))) = some (r1, r2, r3, r4) := by first | (rw [hy103]; with_reducible exact H) | (have H2_ := (Option.bind_some _ _).symm.trans H; rw [hy103]; with_reducible exact H2_) | (have H2_ := (Option.bind_some _ _).symm.trans H; with_reducible exact H2_) | with_reducible exact H | (rw [hy103]; exact H) | exact H
    have Ny103 := Aside0.mk hy103
    clear hy103
    have Sy103 := Ny103.out.symm
    replace H := Option.bind_eq_some_iff.mp H
    obtain ⟨t104, A110, H⟩ := H
    (try dsimp only at H)
    have A11 := Aside0.mk A110
    clear A110
    have HC12 := Aside0.mk H
    clear H
    try go_wp2
    have n0_ := Aside0.mk (ah_ BK101.out)
    have n1_ := Aside0.mk (bD_ HB.out)
    clear BK101
    clear HB
    have BK101 := n0_
    have HB := n1_
    clear n0_ n1_
    refine start_ (n := 5) (S := fun w' => True) (ds := []) #[f_,f_,f_,f_,f_] (by kernel_rfl) rfl rfl trivial (fun hHeld => ?_)
    generalize wc.drew = w13 at BK101 HB hHeld ⊢
    refine pure_ (i := 0) (N := some 18) (v := ?_) (a' := ?_) #[t_,f_,f_,f_,f_] rfl rfl (by kernel_rfl) (fun _ _ _ h => h) (Or.inl ⟨by rfl, ?_⟩) ?_ ?_
    rotate_left
    ·intro w'
     go_simp
     with_reducible rfl
    rotate_left
    ·simp only [Act.put, lsa_, ls0_, ls1_, i64_w, i32_w]
     rfl
    refine pure_ (i := 1) (N := some 19) (v := ?_) (a' := ?_) #[t_,t_,f_,f_,f_] rfl rfl (by kernel_rfl) (fun _ _ _ h => h) (Or.inl ⟨by rfl, ?_⟩) ?_ ?_
    rotate_left
    ·intro w'
     go_simp
     with_reducible rfl
    rotate_left
    ·simp only [Act.put, lsa_, ls0_, ls1_, i64_w, i32_w]
     rfl
    refine pure_ (i := 2) (N := some 20) (v := ?_) (a' := ?_) #[t_,t_,t_,f_,f_] rfl rfl (by kernel_rfl) (fun _ _ _ h => h) (Or.inl ⟨by rfl, ?_⟩) ?_ ?_
    rotate_left
    ·intro w'
     go_simp
     with_reducible rfl
    rotate_left
    ·simp only [Act.put, lsa_, ls0_, ls1_, i64_w, i32_w]
     rfl
    refine one_ (i := 3) (N := some 21) #[t_,t_,t_,t_,f_] rfl rfl (by kernel_rfl) (by decide) (fun K hK => ?_)
    (first | refine goes_ Tryd.func51 (by kernel_rfl) rfl #[.string y102] (by rfl) rfl rfl (by first | rfl | (simp only [List.map_toArray, List.map_cons, List.map_nil]; first | done | rfl)) ?_ | refine RPW.goesV_ Tryd.func51 (by kernel_rfl) rfl #[.string y102] (by rfl) rfl rfl rfl (by first | rfl | (simp only [List.map_toArray, List.map_cons, List.map_nil]; first | done | rfl)) ?_ | refine RPW.goesC_ Tryd.func51 (by kernel_rfl) rfl #[.string y102] (by rfl) rfl rfl rfl (by first | rfl | (simp only [List.map_toArray, List.map_cons, List.map_nil]; first | done | rfl)) ?_)
    with_reducible refine (aQ_.calls kj1 y102 t104 _ ?side1 A11.out).mono ?_
    (case side1 => exact bt_ HTab_.out (by repeat (first | (with_reducible first | exact HB.out | apply bA_ | apply bN_ | apply bD_ | refine am_ ?_ GE101.out) | exact HB.out)))
    rintro e w14 ⟨rfl, hb⟩
    refine ⟨_, rfl, ?_⟩
    have n0_ := Aside0.mk (bq_ (g := gb101) (o := .cells #[.string (⟨#[]⟩ : ByteArray), .string (⟨#[]⟩ : ByteArray), .string (⟨#[]⟩ : ByteArray)] 43 (0, 0)) (kz BK101.out) hb)
    have n1_ := Aside0.mk (ay_ (by repeat (first | (with_reducible first | exact HB.out | apply bA_ | apply bN_ | apply bD_ | refine am_ ?_ GE101.out) | exact HB.out)) hb)
    clear BK101
    clear HB
    have BK101 := n0_
    have HB := n1_
    clear n0_ n1_
    (try clear hb)
    refine hK.out _ _ trivial (fun hHeld => ?_)
    clear hK K
    refine norm_ (a' := ?_) ?_ ?_
    rotate_left
    ·show Act.put _ (some 21) _ = _
     simp only [Act.put, lsa_, ls0_, ls1_, i64_w, i32_w]
     rfl
    refine pure_ (i := 4) (N := some 22) (v := ?_) (a' := ?_) #[t_,t_,t_,t_,t_] rfl rfl (by kernel_rfl) (fun _ _ _ h => h) (Or.inl ⟨by rfl, ?_⟩) ?_ ?_
    rotate_left
    ·intro w'
     go_simp
     with_reducible rfl
    rotate_left
    ·simp only [Act.put, lsa_, ls0_, ls1_, i64_w, i32_w]
     rfl
    refine done_ (by kernel_rfl) ?_
    go_upto_if 22 with (fail)
    have H := HC12.out
    clear HC12
    by_cases c15 : y103.toList = t104.toList
    rotate_left
    ·rw [if_neg c15] at H
     have c15b0 : (y103.toList == t104.toList) = false := beq_eq_false_iff_ne.mpr c15
     have c15b1 : (y103.toList != t104.toList) = true := bne_iff_ne.mpr c15
     (first | rw [c15b0] | (simp only [i64_w, i32_w]; rw [c15b0]) | (simp only [c15b1, Bool.not_true, Bool.not_false]) | (simp only [c15b0, Bool.not_true, Bool.not_false]) | skip)
     simp only [Option.some.injEq, Prod.mk.injEq] at H
     obtain ⟨rfl, rfl, rfl, rfl⟩ := H
     have hcz41_0 : w14.cell? ⟨gb101, 0, none⟩ = some (.string (⟨#[]⟩ : ByteArray)) := (an_ BK101.out 0).trans rfl
     have hcz41_1 : w14.cell? ⟨gb101, 1, none⟩ = some (.string (⟨#[]⟩ : ByteArray)) := (an_ BK101.out 1).trans rfl
     have hcz41_2 : w14.cell? ⟨gb101, 2, none⟩ = some (.string (⟨#[]⟩ : ByteArray)) := (an_ BK101.out 2).trans rfl
     have hfz41_0 := ad_ BK101.out 0
     have hfz41_1 := ad_ BK101.out 1
     have hfz41_2 := ad_ BK101.out 2
     go_wp2
     refine bodyPost_ret (ba_ rfl _ _ gb101 43 #[.string (⟨#[]⟩ : ByteArray), .string (⟨#[]⟩ : ByteArray), .string (⟨#[]⟩ : ByteArray)] (0, 0) _ rfl (by (with_reducible repeat (first | refine ac_ ?_ _ | refine ah_ ?_ | refine ab_ ?_ _)); refine aF_ (cs := #[.string (⟨#[]⟩ : ByteArray), .string (⟨#[]⟩ : ByteArray), .string (⟨#[]⟩ : ByteArray)]) ?_ 2 _ rfl; (with_reducible repeat (first | refine ac_ ?_ _ | refine ah_ ?_ | refine ab_ ?_ _)); refine aF_ (cs := #[.string (⟨#[]⟩ : ByteArray), .string (⟨#[]⟩ : ByteArray), .string (⟨#[]⟩ : ByteArray)]) ?_ 1 _ rfl; (with_reducible repeat (first | refine ac_ ?_ _ | refine ah_ ?_ | refine ab_ ?_ _)); refine aF_ (cs := #[.string (⟨#[]⟩ : ByteArray), .string (⟨#[]⟩ : ByteArray), .string (⟨#[]⟩ : ByteArray)]) ?_ 0 _ rfl; (with_reducible repeat (first | refine ac_ ?_ _ | refine ah_ ?_ | refine ab_ ?_ _)); exact BK101.out) Tryd.underlying43 rfl (by kernel_rfl)) rfl ?_
     exact ⟨by first | rfl | (simp [*, aq_, ar_] <;> rfl), by repeat (first | (with_reducible first | exact HB.out | apply bA_ | apply bN_ | apply bD_ | refine am_ ?_ GE101.out) | exact HB.out)⟩
    rw [if_pos c15] at H
    have c15b0 : (y103.toList == t104.toList) = true := beq_iff_eq.mpr c15
    have c15b1 : (y103.toList != t104.toList) = false := bne_eq_false_iff_eq.mpr c15
    clear c15
    (first | rw [c15b0] | (simp only [i64_w, i32_w]; rw [c15b0]) | (simp only [c15b1, Bool.not_true, Bool.not_false]) | (simp only [c15b0, Bool.not_true, Bool.not_false]) | skip)
    replace H := Option.bind_eq_some_iff.mp H
    obtain ⟨t105, A160, H⟩ := H
    (try dsimp only at H)
    have A16 := Aside0.mk A160
    clear A160
    have HC17 := Aside0.mk H
    clear H
    go_upto_if 28 with (first | ((with_reducible refine ax_ (f := 52) rfl ?_); refine aX_ (some 25) rfl rfl Tryd.func52 (by kernel_rfl) rfl #[.string y102, .string (⟨#[32]⟩ : ByteArray), .int .i64 3] rfl (by first | rfl | (simp only [List.map_toArray, List.map_cons, List.map_nil]; first | done | rfl)) ?_; (with_reducible refine (strings_SplitN.calls y102 (⟨#[32]⟩ : ByteArray) 3 t105 _ ?side1 A16.out).mono ?_); (case side1 => exact bt_ HTab_.out (by repeat (first | (with_reducible first | exact HB.out | apply bA_ | apply bN_ | apply bD_ | refine am_ ?_ GE101.out) | exact HB.out))); rintro e w18 ⟨v106, rfl, ho0, hb⟩; refine ⟨_, rfl, ?_⟩; have HO107 := Aside0.mk (Kd.bi_ ho0 (ao_ (by repeat (first | (with_reducible first | exact HB.out | apply bA_ | apply bN_ | apply bD_ | refine am_ ?_ GE101.out) | exact HB.out)))); replace BK101 := Aside0.mk (bq_ (g := gb101) (o := .cells #[.string (⟨#[]⟩ : ByteArray), .string (⟨#[]⟩ : ByteArray), .string (⟨#[]⟩ : ByteArray)] 43 (0, 0)) (kz BK101.out) hb); replace HB := Aside0.mk (ay_ (by repeat (first | (with_reducible first | exact HB.out | apply bA_ | apply bN_ | apply bD_ | refine am_ ?_ GE101.out) | exact HB.out)) hb); (try clear hb); (try clear ho0); obtain ⟨Ao19, co19, eo19⟩ := Kd.bm_ HO107.out; subst eo19))
    (try simp only [Act.put, lsa_, ls0_, ls1_])
    have H := HC17.out
    clear HC17
    by_cases c20 : (t105.length : Int) < 3
    rotate_left
    ·rw [if_neg c20] at H
     have c20b0 : decide ((t105.length : Int) < 3) = false := decide_eq_false c20
     have c20b1 : decide (t105.length < 3) = false := decide_eq_false (by omega)
     clear c20
     (first | rw [c20b0] | (simp only [i64_w, i32_w]; rw [c20b0]) | (simp only [c20b1, Bool.not_true, Bool.not_false]) | (simp only [c20b0, Bool.not_true, Bool.not_false]) | skip)
     by_cases c22 : 0 < (t105.length : Int)
     rotate_left
     ·rw [if_neg c22] at H
      exact absurd H (by simp)
     rw [if_pos c22] at H
     have c22b0 : decide (0 < (t105.length : Int)) = true := decide_eq_true c22
     have c22b1 : decide (0 < t105.length) = true := decide_eq_true (by omega)
     clear c22
     by_cases c23 : 1 < (t105.length : Int)
     rotate_left
     ·rw [if_neg c23] at H
      exact absurd H (by simp)
     rw [if_pos c23] at H
     have c23b0 : decide (1 < (t105.length : Int)) = true := decide_eq_true c23
     have c23b1 : decide (1 < t105.length) = true := decide_eq_true (by omega)
     clear c23
     by_cases c24 : 2 < (t105.length : Int)
     rotate_left
     ·rw [if_neg c24] at H
      exact absurd H (by simp)
     rw [if_pos c24] at H
     have c24b0 : decide (2 < (t105.length : Int)) = true := decide_eq_true c24
     have c24b1 : decide (2 < t105.length) = true := decide_eq_true (by omega)
     clear c24
     replace H := Option.bind_eq_some_iff.mp H
     obtain ⟨t112, A250, H⟩ := H
     (try dsimp only at H)
     have A25 := Aside0.mk A250
     clear A250
     have HC26 := Aside0.mk H
     clear H
     try go_wp2
     (try (rw [drewN_self w18]; generalize hq_ : World.drewN w18 _ = w18; have n0_ : Aside0 (Kd.R Kd.string 9 w18 w.heap.size (fun k_ => True) (.slice Ao19 t105.length co19) t105) := ⟨by rw [← hq_]; exact (rz HO107.out)⟩; have n1_ : Aside0 (w18.heap[gb101]? = some (.cells #[.string (⟨#[]⟩ : ByteArray), .string (⟨#[]⟩ : ByteArray), .string (⟨#[]⟩ : ByteArray)] 43 (0, 0))) := ⟨by rw [← hq_]; exact (kz BK101.out)⟩; have n2_ : Aside0 (Below w.heap.size w w18) := ⟨by rw [← hq_]; exact (by repeat (first | (with_reducible first | exact HB.out | apply bA_ | apply bN_ | apply bD_ | refine am_ ?_ GE101.out) | exact HB.out))⟩; clear HO107 BK101 HB hq_; have HO107 := n0_; have BK101 := n1_; have HB := n2_; clear n0_ n1_ n2_))
     have n0_ := Aside0.mk (Kd.R_drew HO107.out)
     have n1_ := Aside0.mk (ah_ BK101.out)
     have n2_ := Aside0.mk (bD_ HB.out)
     clear HO107
     clear BK101
     clear HB
     have HO107 := n0_
     have BK101 := n1_
     have HB := n2_
     clear n0_ n1_ n2_
     have p108 : 0 ≤ (0 : Int) := (by omega)
     have q108 : 0 < (t105.length : Int) := of_decide_eq_true (by assumption)
     obtain ⟨ad108, e108, hx108_0⟩ := Kd.bh_ (Kd.aJ_ HO107.out).2.2 0 p108 q108
     cases e108
     have qi108 : (0 < t105.length) = True := eq_true (by omega)
     (try rw [show ((0 : Int)).toNat = 0 from rfl] at hx108_0)
     (try rw [Addr.add_zero'] at hx108_0)
     replace p108 := eq_true p108
     replace q108 := eq_true q108
     have p109 : 0 ≤ (1 : Int) := (by omega)
     have q109 : 1 < (t105.length : Int) := of_decide_eq_true (by assumption)
     obtain ⟨ad109, e109, hx109_0⟩ := Kd.bh_ (Kd.aJ_ HO107.out).2.2 1 p109 q109
     obtain rfl : ad108 = ad109 := (by injection e109)
     (try simp only [show (1 : Int).toNat = 1 from rfl, Nat.reduceMul, Nat.reduceEqDiff, Go.Addr.add, ↓reduceIte] at hx109_0)
     have qi109 : (1 < t105.length) = True := eq_true (by omega)
     (try rw [show ((1 : Int)).toNat = 1 from rfl] at hx109_0)
     replace p109 := eq_true p109
     replace q109 := eq_true q109
     have p110 : 0 ≤ (2 : Int) := (by omega)
     have q110 : 2 < (t105.length : Int) := of_decide_eq_true (by assumption)
     obtain ⟨ad110, e110, hx110_0⟩ := Kd.bh_ (Kd.aJ_ HO107.out).2.2 2 p110 q110
     obtain rfl : ad108 = ad110 := (by injection e110)
     (try simp only [show (2 : Int).toNat = 2 from rfl, Nat.reduceMul, Nat.reduceEqDiff, Go.Addr.add, ↓reduceIte] at hx110_0)
     have qi110 : (2 < t105.length) = True := eq_true (by omega)
     (try rw [show ((2 : Int)).toNat = 2 from rfl] at hx110_0)
     replace p110 := eq_true p110
     replace q110 := eq_true q110
     refine start_ (n := 12) (S := fun w' => w'.cell? ad108 = some (.string (rdOf ByteArray.empty t105 0)) ∧ w'.cell? ⟨ad108.block, ad108.off + 1, none⟩ = some (.string (rdOf ByteArray.empty t105 1)) ∧ w'.cell? ⟨ad108.block, ad108.off + 2, none⟩ = some (.string (rdOf ByteArray.empty t105 2))) (ds := []) #[f_,f_,f_,f_,f_,f_,f_,f_,f_,f_,f_,f_] (by kernel_rfl) rfl rfl ⟨hx108_0, hx109_0, hx110_0⟩ (fun hHeld => ?_); refine with_tabW ai_.tab9 ai_.bits9 (fun HT_ HW_ => ?_)
     generalize w18.drew = w27 at HO107 BK101 HB hx108_0 hx109_0 hx110_0 hHeld ⊢
     refine pure_ (i := 0) (N := some 30) (v := ?_) (a' := ?_) #[t_,f_,f_,f_,f_,f_,f_,f_,f_,f_,f_,f_] rfl rfl (bj_ HT_.out (by kernel_rfl)) (fun _ _ _ h => h) (Or.inl ⟨by rfl, ?_⟩) ?_ ?_
     rotate_left
     ·intro w'
      go_simp
      with_reducible rfl
     rotate_left
     ·simp only [Act.put, lsa_, ls0_, ls1_, i64_w, i32_w]
      rfl
     refine pure_ (i := 1) (N := some 31) (v := ?_) (a' := ?_) #[t_,t_,f_,f_,f_,f_,f_,f_,f_,f_,f_,f_] rfl rfl (bj_ HT_.out (by kernel_rfl)) (fun _ _ _ h => h) (Or.inl ⟨by rfl, ?_⟩) ?_ ?_
     rotate_left
     ·intro w'
      go_simp
      with_reducible rfl
     rotate_left
     ·simp only [Act.put, lsa_, ls0_, ls1_, i64_w, i32_w]
      rfl
     refine pure_ (i := 3) (N := some 33) (v := ?_) (a' := ?_) #[t_,t_,f_,t_,f_,f_,f_,f_,f_,f_,f_,f_] rfl rfl (bj_ HT_.out (by kernel_rfl)) (fun _ _ _ h => h) (Or.inl ⟨by rfl, ?_⟩) ?_ ?_
     rotate_left
     ·intro w'
      go_simp
      with_reducible rfl
     rotate_left
     ·simp only [Act.put, lsa_, ls0_, ls1_, i64_w, i32_w]
      rfl
     refine pure_ (i := 4) (N := some 34) (v := ?_) (a' := ?_) #[t_,t_,f_,t_,t_,f_,f_,f_,f_,f_,f_,f_] rfl rfl (bj_ HT_.out (by kernel_rfl)) (fun _ _ _ h => h) (Or.inl ⟨by rfl, ?_⟩) ?_ ?_
     rotate_left
     ·intro w'
      go_simp
      with_reducible rfl
     rotate_left
     ·simp only [Act.put, lsa_, ls0_, ls1_, i64_w, i32_w]
      rfl
     refine pure_ (i := 6) (N := some 36) (v := ?_) (a' := ?_) #[t_,t_,f_,t_,t_,f_,t_,f_,f_,f_,f_,f_] rfl rfl (bj_ HT_.out (by kernel_rfl)) (fun _ _ _ h => h) (Or.inl ⟨by rfl, ?_⟩) ?_ ?_
     rotate_left
     ·intro w'
      go_simp
      with_reducible rfl
     rotate_left
     ·simp only [Act.put, lsa_, ls0_, ls1_, i64_w, i32_w]
      rfl
     refine pure_ (i := 7) (N := some 37) (v := ?_) (a' := ?_) #[t_,t_,f_,t_,t_,f_,t_,t_,f_,f_,f_,f_] rfl rfl (bj_ HT_.out (by kernel_rfl)) (fun _ _ _ h => h) (Or.inl ⟨by rfl, ?_⟩) ?_ ?_
     rotate_left
     ·intro w'
      go_simp
      with_reducible rfl
     rotate_left
     ·simp only [Act.put, lsa_, ls0_, ls1_, i64_w, i32_w]
      rfl
     refine take_ (i := 2) (N := some 32) (v := ?_) (a' := ?_) #[t_,t_,t_,t_,t_,f_,t_,t_,f_,f_,f_,f_] rfl rfl (take_ofW HT_.out HW_.out (by kernel_rfl)) (fun _ _ _ h => h) (Or.inl ⟨by rfl, ?_⟩) hHeld ?_ ?_
     rotate_left
     ·rintro w' ⟨s0, s1, s2⟩
      go_simp
      with_reducible rfl
     rotate_left
     ·simp only [Act.put, lsa_, ls0_, ls1_, i64_w, i32_w]
      rfl
     refine take_ (i := 5) (N := some 35) (v := ?_) (a' := ?_) #[t_,t_,t_,t_,t_,t_,t_,t_,f_,f_,f_,f_] rfl rfl (take_ofW HT_.out HW_.out (by kernel_rfl)) (fun _ _ _ h => h) (Or.inl ⟨by rfl, ?_⟩) hHeld ?_ ?_
     rotate_left
     ·rintro w' ⟨s0, s1, s2⟩
      go_simp
      with_reducible rfl
     rotate_left
     ·simp only [Act.put, lsa_, ls0_, ls1_, i64_w, i32_w]
      rfl
     refine take_ (i := 8) (N := some 38) (v := ?_) (a' := ?_) #[t_,t_,t_,t_,t_,t_,t_,t_,t_,f_,f_,f_] rfl rfl (take_ofW HT_.out HW_.out (by kernel_rfl)) (fun _ _ _ h => h) (Or.inl ⟨by rfl, ?_⟩) hHeld ?_ ?_
     rotate_left
     ·rintro w' ⟨s0, s1, s2⟩
      go_simp
      with_reducible rfl
     rotate_left
     ·simp only [Act.put, lsa_, ls0_, ls1_, i64_w, i32_w]
      rfl
     refine pure_ (i := 9) (N := some 39) (v := ?_) (a' := ?_) #[t_,t_,t_,t_,t_,t_,t_,t_,t_,t_,f_,f_] rfl rfl (bj_ HT_.out (by kernel_rfl)) (fun _ _ _ h => h) (Or.inl ⟨by rfl, ?_⟩) ?_ ?_
     rotate_left
     ·intro w'
      go_simp
      with_reducible rfl
     rotate_left
     ·simp only [Act.put, lsa_, ls0_, ls1_, i64_w, i32_w]
      rfl
     refine one_ (i := 10) (N := some 6) #[t_,t_,t_,t_,t_,t_,t_,t_,t_,t_,t_,f_] rfl rfl (one_of HT_.out (by kernel_rfl)) (by decide) (fun K hK => ?_)
     refine box_step ?hg (N := 6) ?hd (cs := #[.string (⟨#[]⟩ : ByteArray), .string (⟨#[]⟩ : ByteArray), .string (⟨#[]⟩ : ByteArray)]) (t := 43) ?hr ?_; (case hd => rfl); (case hg => rfl); (case hr => (go_simp; try rfl))
     intro gb111 hg w28 hbox hb
     have HS0_ := (hb.cell (bl_ _ _ (hHeld.1))).trans (hHeld.1)
     have HS1_ := (hb.cell (bl_ _ _ (hHeld.2.1))).trans (hHeld.2.1)
     have HS2_ := (hb.cell (bl_ _ _ (hHeld.2.2))).trans (hHeld.2.2)
     have n0_ := Aside0.mk (Kd.bk_ (rz HO107.out) hb)
     have n1_ := Aside0.mk (bq_ (g := gb101) (o := .cells #[.string (⟨#[]⟩ : ByteArray), .string (⟨#[]⟩ : ByteArray), .string (⟨#[]⟩ : ByteArray)] 43 (0, 0)) (kz BK101.out) hb)
     have n2_ := Aside0.mk (ay_ (by repeat (first | (with_reducible first | exact HB.out | apply bA_ | apply bN_ | apply bD_ | refine am_ ?_ GE101.out) | exact HB.out)) hb)
     have n3_ := Aside0.mk (hbox)
     have n4_ := Aside0.mk ((by rw [hg]; exact (ao_ (by repeat (first | (with_reducible first | exact HB.out | apply bA_ | apply bN_ | apply bD_ | refine am_ ?_ GE101.out) | exact HB.out))) : w.heap.size ≤ gb111))
     have n5_ := Aside0.mk ((by rw [hg]; exact (ao_ (by repeat (first | (with_reducible first | exact HB.out | apply bA_ | apply bN_ | apply bD_ | refine am_ ?_ GE101.out) | exact HB.out))) : w.heap.size ≤ gb111))
     have n6_ := Aside0.mk ((by rw [hg]; exact Nat.ne_of_lt (blk_lt (g := gb101) (o := .cells #[.string (⟨#[]⟩ : ByteArray), .string (⟨#[]⟩ : ByteArray), .string (⟨#[]⟩ : ByteArray)] 43 (0, 0)) (kz BK101.out)) : gb101 ≠ gb111))
     have n7_ := Aside0.mk ((by rw [hg]; exact Nat.ne_of_gt (blk_lt (g := gb101) (o := .cells #[.string (⟨#[]⟩ : ByteArray), .string (⟨#[]⟩ : ByteArray), .string (⟨#[]⟩ : ByteArray)] 43 (0, 0)) (kz BK101.out)) : gb111 ≠ gb101))
     clear HO107
     clear BK101
     clear HB
     have HO107 := n0_
     have BK101 := n1_
     have HB := n2_
     have BK111 := n3_
     have GW111 := n4_
     have GE111 := n5_
     have NB101_111 := n6_
     have NB111_101 := n7_
     clear n0_ n1_ n2_ n3_ n4_ n5_ n6_ n7_
     clear hb hbox hg
     refine hK.out _ _ ⟨HS0_, HS1_, HS2_⟩ (fun hHeld => ?_)
     clear hK K
     refine norm_ (a' := ?_) ?_ ?_
     rotate_left
     ·show Act.put _ (some 6) _ = _
      simp only [Act.put, lsa_, ls0_, ls1_, i64_w, i32_w]
      rfl
     refine one_ (i := 11) (N := none) #[t_,t_,t_,t_,t_,t_,t_,t_,t_,t_,t_,t_] rfl rfl (one_of HT_.out (by kernel_rfl)) (by decide) (fun K hK => ?_)
     have hs29 : w28.cell? ⟨gb111, 0, none⟩ = some (.string (⟨#[]⟩ : ByteArray)) := (an_ BK111.out 0).trans rfl
     have hfs29 := ad_ BK111.out 0
     have hns29_0 := NB101_111.out
     have hms29_0 := NB111_101.out
     have hs30 : w28.cell? ⟨gb111, 1, none⟩ = some (.string (⟨#[]⟩ : ByteArray)) := (an_ BK111.out 1).trans rfl
     have hfs30 := ad_ BK111.out 1
     have hns30_0 := NB101_111.out
     have hms30_0 := NB111_101.out
     have hs31 : w28.cell? ⟨gb111, 2, none⟩ = some (.string (⟨#[]⟩ : ByteArray)) := (an_ BK111.out 2).trans rfl
     have hfs31 := ad_ BK111.out 2
     have hns31_0 := NB101_111.out
     have hms31_0 := NB111_101.out
     refine skip_ (w1 := ?_) (by rfl) rfl ?_ ?_
     rotate_left
     ·go_simp
      rfl
     refine hK.out _ _ ⟨((cell_far (p := ⟨gb111, _, none⟩) (by first | exact Kd.aK_ (Kd.R_ne HO107.out BK111.out (by decide)) | (rw [add_block]; exact Kd.aK_ (Kd.R_ne HO107.out BK111.out (by decide))) | (show (Addr.add _ _).block ≠ _; rw [add_block]; exact Kd.aK_ (Kd.R_ne HO107.out BK111.out (by decide))) | (dsimp only; exact Kd.aK_ (Kd.R_ne HO107.out BK111.out (by decide)))) _).trans (((cell_far (p := ⟨gb111, _, none⟩) (by first | exact Kd.aK_ (Kd.R_ne HO107.out BK111.out (by decide)) | (rw [add_block]; exact Kd.aK_ (Kd.R_ne HO107.out BK111.out (by decide))) | (show (Addr.add _ _).block ≠ _; rw [add_block]; exact Kd.aK_ (Kd.R_ne HO107.out BK111.out (by decide))) | (dsimp only; exact Kd.aK_ (Kd.R_ne HO107.out BK111.out (by decide)))) _).trans (((cell_far (p := ⟨gb111, _, none⟩) (by first | exact Kd.aK_ (Kd.R_ne HO107.out BK111.out (by decide)) | (rw [add_block]; exact Kd.aK_ (Kd.R_ne HO107.out BK111.out (by decide))) | (show (Addr.add _ _).block ≠ _; rw [add_block]; exact Kd.aK_ (Kd.R_ne HO107.out BK111.out (by decide))) | (dsimp only; exact Kd.aK_ (Kd.R_ne HO107.out BK111.out (by decide)))) _).trans (hHeld.1)))))), ((cell_far (p := ⟨gb111, _, none⟩) (by first | exact Kd.aK_ (Kd.R_ne HO107.out BK111.out (by decide)) | (rw [add_block]; exact Kd.aK_ (Kd.R_ne HO107.out BK111.out (by decide))) | (show (Addr.add _ _).block ≠ _; rw [add_block]; exact Kd.aK_ (Kd.R_ne HO107.out BK111.out (by decide))) | (dsimp only; exact Kd.aK_ (Kd.R_ne HO107.out BK111.out (by decide)))) _).trans (((cell_far (p := ⟨gb111, _, none⟩) (by first | exact Kd.aK_ (Kd.R_ne HO107.out BK111.out (by decide)) | (rw [add_block]; exact Kd.aK_ (Kd.R_ne HO107.out BK111.out (by decide))) | (show (Addr.add _ _).block ≠ _; rw [add_block]; exact Kd.aK_ (Kd.R_ne HO107.out BK111.out (by decide))) | (dsimp only; exact Kd.aK_ (Kd.R_ne HO107.out BK111.out (by decide)))) _).trans (((cell_far (p := ⟨gb111, _, none⟩) (by first | exact Kd.aK_ (Kd.R_ne HO107.out BK111.out (by decide)) | (rw [add_block]; exact Kd.aK_ (Kd.R_ne HO107.out BK111.out (by decide))) | (show (Addr.add _ _).block ≠ _; rw [add_block]; exact Kd.aK_ (Kd.R_ne HO107.out BK111.out (by decide))) | (dsimp only; exact Kd.aK_ (Kd.R_ne HO107.out BK111.out (by decide)))) _).trans (hHeld.2.1)))))), ((cell_far (p := ⟨gb111, _, none⟩) (by first | exact Kd.aK_ (Kd.R_ne HO107.out BK111.out (by decide)) | (rw [add_block]; exact Kd.aK_ (Kd.R_ne HO107.out BK111.out (by decide))) | (show (Addr.add _ _).block ≠ _; rw [add_block]; exact Kd.aK_ (Kd.R_ne HO107.out BK111.out (by decide))) | (dsimp only; exact Kd.aK_ (Kd.R_ne HO107.out BK111.out (by decide)))) _).trans (((cell_far (p := ⟨gb111, _, none⟩) (by first | exact Kd.aK_ (Kd.R_ne HO107.out BK111.out (by decide)) | (rw [add_block]; exact Kd.aK_ (Kd.R_ne HO107.out BK111.out (by decide))) | (show (Addr.add _ _).block ≠ _; rw [add_block]; exact Kd.aK_ (Kd.R_ne HO107.out BK111.out (by decide))) | (dsimp only; exact Kd.aK_ (Kd.R_ne HO107.out BK111.out (by decide)))) _).trans (((cell_far (p := ⟨gb111, _, none⟩) (by first | exact Kd.aK_ (Kd.R_ne HO107.out BK111.out (by decide)) | (rw [add_block]; exact Kd.aK_ (Kd.R_ne HO107.out BK111.out (by decide))) | (show (Addr.add _ _).block ≠ _; rw [add_block]; exact Kd.aK_ (Kd.R_ne HO107.out BK111.out (by decide))) | (dsimp only; exact Kd.aK_ (Kd.R_ne HO107.out BK111.out (by decide)))) _).trans (hHeld.2.2))))))⟩ (fun hHeld => ?_)
     clear hK K
     refine done_ (done_of HT_.out (by kernel_rfl)) ?_
     have hnb32 := NB111_101.out
     have hnc32 := NB101_111.out
     have hcz33_0 : w28.cell? ⟨gb111, 0, none⟩ = some (.string (⟨#[]⟩ : ByteArray)) := (an_ BK111.out 0).trans rfl
     have hcz33_1 : w28.cell? ⟨gb111, 1, none⟩ = some (.string (⟨#[]⟩ : ByteArray)) := (an_ BK111.out 1).trans rfl
     have hcz33_2 : w28.cell? ⟨gb111, 2, none⟩ = some (.string (⟨#[]⟩ : ByteArray)) := (an_ BK111.out 2).trans rfl
     have hfz33_0 := ad_ BK111.out 0
     have hfz33_1 := ad_ BK111.out 1
     have hfz33_2 := ad_ BK111.out 2
     go_upto_if 42 with (first | ((with_reducible refine ax_ (f := 53) rfl ?_); refine aX_ (some 41) rfl rfl Tryd.func53 (by kernel_rfl) rfl #[.agg #[.string (rdOf ByteArray.empty t105 0), .string (rdOf ByteArray.empty t105 1), .string (rdOf ByteArray.empty t105 2)]] rfl (by first | rfl | (simp only [List.map_toArray, List.map_cons, List.map_nil]; first | done | rfl)) ?_; (with_reducible refine (aH_.calls kj1 (rdOf ByteArray.empty t105 0) (rdOf ByteArray.empty t105 1) (rdOf ByteArray.empty t105 2) t112 _ A25.out).mono ?_); rintro e w34 ⟨rfl, hb⟩; refine ⟨_, rfl, ?_⟩; replace HO107 := Aside0.mk (Kd.bk_ (rz (Kd.aY_ (Kd.R_far (p := ⟨gb111, 2, none⟩) (Kd.R_far (p := ⟨gb111, 1, none⟩) (Kd.R_far (p := ⟨gb111, 0, none⟩) (Kd.R_types HO107.out BK111.out (by decide)) (fun _ hk => hk.2) (.string (rdOf ByteArray.empty t105 0))) (fun _ hk => hk.2) (.string (rdOf ByteArray.empty t105 1))) (fun _ hk => hk.2) (.string (rdOf ByteArray.empty t105 2))) (fun _ h_ => h_.1))) hb); replace BK101 := Aside0.mk (bq_ (g := gb101) (o := .cells #[.string (⟨#[]⟩ : ByteArray), .string (⟨#[]⟩ : ByteArray), .string (⟨#[]⟩ : ByteArray)] 43 (0, 0)) (by (with_reducible repeat (first | refine ac_ ?_ _ | refine ah_ ?_ | refine ab_ ?_ _)); refine blk_far ?_ NB101_111.out _; (with_reducible repeat (first | refine ac_ ?_ _ | refine ah_ ?_ | refine ab_ ?_ _)); refine blk_far ?_ NB101_111.out _; (with_reducible repeat (first | refine ac_ ?_ _ | refine ah_ ?_ | refine ab_ ?_ _)); refine blk_far ?_ NB101_111.out _; (with_reducible repeat (first | refine ac_ ?_ _ | refine ah_ ?_ | refine ab_ ?_ _)); exact BK101.out) hb); replace BK111 := Aside0.mk (bq_ (g := gb111) (o := .cells #[.string (rdOf ByteArray.empty t105 0), .string (rdOf ByteArray.empty t105 1), .string (rdOf ByteArray.empty t105 2)] 43 (0, 0)) (by (with_reducible repeat (first | refine ac_ ?_ _ | refine ah_ ?_ | refine ab_ ?_ _)); refine aF_ (cs := #[.string (rdOf ByteArray.empty t105 0), .string (rdOf ByteArray.empty t105 1), .string (⟨#[]⟩ : ByteArray)]) ?_ 2 _ rfl; (with_reducible repeat (first | refine ac_ ?_ _ | refine ah_ ?_ | refine ab_ ?_ _)); refine aF_ (cs := #[.string (rdOf ByteArray.empty t105 0), .string (⟨#[]⟩ : ByteArray), .string (⟨#[]⟩ : ByteArray)]) ?_ 1 _ rfl; (with_reducible repeat (first | refine ac_ ?_ _ | refine ah_ ?_ | refine ab_ ?_ _)); refine aF_ (cs := #[.string (⟨#[]⟩ : ByteArray), .string (⟨#[]⟩ : ByteArray), .string (⟨#[]⟩ : ByteArray)]) ?_ 0 _ rfl; (with_reducible repeat (first | refine ac_ ?_ _ | refine ah_ ?_ | refine ab_ ?_ _)); exact BK111.out) hb); replace HB := Aside0.mk (ay_ (by repeat (first | (with_reducible first | exact HB.out | apply bA_ | apply bN_ | apply bD_ | refine am_ ?_ GE101.out | refine am_ ?_ GE111.out) | exact HB.out)) hb); (try clear hb)))
     (try simp only [Act.put, lsa_, ls0_, ls1_])
     have H := HC26.out
     clear HC26
     by_cases c35 : t112 = true
     rotate_left
     ·replace c35 := Bool.eq_false_iff.mpr c35
      subst c35
      have H1 : (some ((⟨#[]⟩ : ByteArray), (⟨#[]⟩ : ByteArray), (⟨#[]⟩ : ByteArray), 9)) = some (r1, r2, r3, r4) := by rw [if_neg (show ¬ (false = true) by decide)] at H; exact H
      clear H
      have H := H1
      clear H1
      simp only [Option.some.injEq, Prod.mk.injEq] at H
      obtain ⟨rfl, rfl, rfl, rfl⟩ := H
      have hnb39 := NB101_111.out
      have hnc39 := NB111_101.out
      have hcz40_0 : w34.cell? ⟨gb101, 0, none⟩ = some (.string (⟨#[]⟩ : ByteArray)) := (an_ BK101.out 0).trans rfl
      have hcz40_1 : w34.cell? ⟨gb101, 1, none⟩ = some (.string (⟨#[]⟩ : ByteArray)) := (an_ BK101.out 1).trans rfl
      have hcz40_2 : w34.cell? ⟨gb101, 2, none⟩ = some (.string (⟨#[]⟩ : ByteArray)) := (an_ BK101.out 2).trans rfl
      have hfz40_0 := ad_ BK101.out 0
      have hfz40_1 := ad_ BK101.out 1
      have hfz40_2 := ad_ BK101.out 2
      go_wp2
      refine bodyPost_ret (ba_ rfl _ _ gb101 43 #[.string (⟨#[]⟩ : ByteArray), .string (⟨#[]⟩ : ByteArray), .string (⟨#[]⟩ : ByteArray)] (0, 0) _ rfl (by (with_reducible repeat (first | refine ac_ ?_ _ | refine ah_ ?_ | refine ab_ ?_ _)); refine aF_ (cs := #[.string (⟨#[]⟩ : ByteArray), .string (⟨#[]⟩ : ByteArray), .string (⟨#[]⟩ : ByteArray)]) ?_ 2 _ rfl; (with_reducible repeat (first | refine ac_ ?_ _ | refine ah_ ?_ | refine ab_ ?_ _)); refine aF_ (cs := #[.string (⟨#[]⟩ : ByteArray), .string (⟨#[]⟩ : ByteArray), .string (⟨#[]⟩ : ByteArray)]) ?_ 1 _ rfl; (with_reducible repeat (first | refine ac_ ?_ _ | refine ah_ ?_ | refine ab_ ?_ _)); refine aF_ (cs := #[.string (⟨#[]⟩ : ByteArray), .string (⟨#[]⟩ : ByteArray), .string (⟨#[]⟩ : ByteArray)]) ?_ 0 _ rfl; (with_reducible repeat (first | refine ac_ ?_ _ | refine ah_ ?_ | refine ab_ ?_ _)); exact BK101.out) Tryd.underlying43 rfl (by kernel_rfl)) rfl ?_
      exact ⟨by first | rfl | (simp [*, aq_, ar_] <;> rfl), by repeat (first | (with_reducible first | exact HB.out | apply bA_ | apply bN_ | apply bD_ | refine am_ ?_ GE101.out | refine am_ ?_ GE111.out) | exact HB.out)⟩
     subst c35
     have H1 : (some (rdOf ByteArray.empty t105 0, rdOf ByteArray.empty t105 1, rdOf ByteArray.empty t105 2, 0)) = some (r1, r2, r3, r4) := by rw [if_pos rfl] at H; exact H
     clear H
     have H := H1
     clear H1
     simp only [Option.some.injEq, Prod.mk.injEq] at H
     obtain ⟨rfl, rfl, rfl, rfl⟩ := H
     have hnb36 := NB111_101.out
     have hnc36 := NB101_111.out
     have hcz37_0 : w34.cell? ⟨gb111, 0, none⟩ = some (.string (rdOf ByteArray.empty t105 0)) := (an_ BK111.out 0).trans rfl
     have hcz37_1 : w34.cell? ⟨gb111, 1, none⟩ = some (.string (rdOf ByteArray.empty t105 1)) := (an_ BK111.out 1).trans rfl
     have hcz37_2 : w34.cell? ⟨gb111, 2, none⟩ = some (.string (rdOf ByteArray.empty t105 2)) := (an_ BK111.out 2).trans rfl
     have hfz37_0 := ad_ BK111.out 0
     have hfz37_1 := ad_ BK111.out 1
     have hfz37_2 := ad_ BK111.out 2
     have hcz38_0 : w34.cell? ⟨gb101, 0, none⟩ = some (.string (⟨#[]⟩ : ByteArray)) := (an_ BK101.out 0).trans rfl
     have hcz38_1 : w34.cell? ⟨gb101, 1, none⟩ = some (.string (⟨#[]⟩ : ByteArray)) := (an_ BK101.out 1).trans rfl
     have hcz38_2 : w34.cell? ⟨gb101, 2, none⟩ = some (.string (⟨#[]⟩ : ByteArray)) := (an_ BK101.out 2).trans rfl
     have hfz38_0 := ad_ BK101.out 0
     have hfz38_1 := ad_ BK101.out 1
     have hfz38_2 := ad_ BK101.out 2
     go_wp2
     refine bodyPost_ret (ba_ rfl _ _ gb101 43 #[.string (rdOf ByteArray.empty t105 0), .string (rdOf ByteArray.empty t105 1), .string (rdOf ByteArray.empty t105 2)] (0, 0) _ rfl (by (with_reducible repeat (first | refine ac_ ?_ _ | refine ah_ ?_ | refine ab_ ?_ _)); refine aF_ (cs := #[.string (rdOf ByteArray.empty t105 0), .string (rdOf ByteArray.empty t105 1), .string (⟨#[]⟩ : ByteArray)]) ?_ 2 _ rfl; (with_reducible repeat (first | refine ac_ ?_ _ | refine ah_ ?_ | refine ab_ ?_ _)); refine aF_ (cs := #[.string (rdOf ByteArray.empty t105 0), .string (⟨#[]⟩ : ByteArray), .string (⟨#[]⟩ : ByteArray)]) ?_ 1 _ rfl; (with_reducible repeat (first | refine ac_ ?_ _ | refine ah_ ?_ | refine ab_ ?_ _)); refine aF_ (cs := #[.string (⟨#[]⟩ : ByteArray), .string (⟨#[]⟩ : ByteArray), .string (⟨#[]⟩ : ByteArray)]) ?_ 0 _ rfl; (with_reducible repeat (first | refine ac_ ?_ _ | refine ah_ ?_ | refine ab_ ?_ _)); exact BK101.out) Tryd.underlying43 rfl (by kernel_rfl)) rfl ?_
     exact ⟨by first | rfl | (simp [*, aq_, ar_] <;> rfl), by repeat (first | (with_reducible first | exact HB.out | apply bA_ | apply bN_ | apply bD_ | refine am_ ?_ GE101.out | refine am_ ?_ GE111.out) | exact HB.out)⟩
    rw [if_pos c20] at H
    have c20b0 : decide ((t105.length : Int) < 3) = true := decide_eq_true c20
    have c20b1 : decide (t105.length < 3) = true := decide_eq_true (by omega)
    clear c20
    (first | rw [c20b0] | (simp only [i64_w, i32_w]; rw [c20b0]) | (simp only [c20b1, Bool.not_true, Bool.not_false]) | (simp only [c20b0, Bool.not_true, Bool.not_false]) | skip)
    simp only [Option.some.injEq, Prod.mk.injEq] at H
    obtain ⟨rfl, rfl, rfl, rfl⟩ := H
    have hcz21_0 : w18.cell? ⟨gb101, 0, none⟩ = some (.string (⟨#[]⟩ : ByteArray)) := (an_ BK101.out 0).trans rfl
    have hcz21_1 : w18.cell? ⟨gb101, 1, none⟩ = some (.string (⟨#[]⟩ : ByteArray)) := (an_ BK101.out 1).trans rfl
    have hcz21_2 : w18.cell? ⟨gb101, 2, none⟩ = some (.string (⟨#[]⟩ : ByteArray)) := (an_ BK101.out 2).trans rfl
    have hfz21_0 := ad_ BK101.out 0
    have hfz21_1 := ad_ BK101.out 1
    have hfz21_2 := ad_ BK101.out 2
    go_wp2
    refine bodyPost_ret (ba_ rfl _ _ gb101 43 #[.string (⟨#[]⟩ : ByteArray), .string (⟨#[]⟩ : ByteArray), .string (⟨#[]⟩ : ByteArray)] (0, 0) _ rfl (by (with_reducible repeat (first | refine ac_ ?_ _ | refine ah_ ?_ | refine ab_ ?_ _)); refine aF_ (cs := #[.string (⟨#[]⟩ : ByteArray), .string (⟨#[]⟩ : ByteArray), .string (⟨#[]⟩ : ByteArray)]) ?_ 2 _ rfl; (with_reducible repeat (first | refine ac_ ?_ _ | refine ah_ ?_ | refine ab_ ?_ _)); refine aF_ (cs := #[.string (⟨#[]⟩ : ByteArray), .string (⟨#[]⟩ : ByteArray), .string (⟨#[]⟩ : ByteArray)]) ?_ 1 _ rfl; (with_reducible repeat (first | refine ac_ ?_ _ | refine ah_ ?_ | refine ab_ ?_ _)); refine aF_ (cs := #[.string (⟨#[]⟩ : ByteArray), .string (⟨#[]⟩ : ByteArray), .string (⟨#[]⟩ : ByteArray)]) ?_ 0 _ rfl; (with_reducible repeat (first | refine ac_ ?_ _ | refine ah_ ?_ | refine ab_ ?_ _)); exact BK101.out) Tryd.underlying43 rfl (by kernel_rfl)) rfl ?_
    exact ⟨by first | rfl | (simp [*, aq_, ar_] <;> rfl), by repeat (first | (with_reducible first | exact HB.out | apply bA_ | apply bN_ | apply bD_ | refine am_ ?_ GE101.out) | exact HB.out)⟩
   subst c7
   have H1 : (some ((⟨#[]⟩ : ByteArray), (⟨#[]⟩ : ByteArray), (⟨#[]⟩ : ByteArray), 9)) = some (r1, r2, r3, r4) := by rw [if_pos rfl] at H; exact H
   clear H
   have H := H1
   clear H1
   simp only [Option.some.injEq, Prod.mk.injEq] at H
   obtain ⟨rfl, rfl, rfl, rfl⟩ := H
   have hcz8_0 : wc.cell? ⟨gb101, 0, none⟩ = some (.string (⟨#[]⟩ : ByteArray)) := (an_ BK101.out 0).trans rfl
   have hcz8_1 : wc.cell? ⟨gb101, 1, none⟩ = some (.string (⟨#[]⟩ : ByteArray)) := (an_ BK101.out 1).trans rfl
   have hcz8_2 : wc.cell? ⟨gb101, 2, none⟩ = some (.string (⟨#[]⟩ : ByteArray)) := (an_ BK101.out 2).trans rfl
   have hfz8_0 := ad_ BK101.out 0
   have hfz8_1 := ad_ BK101.out 1
   have hfz8_2 := ad_ BK101.out 2
   go_wp2
   refine bodyPost_ret (ba_ rfl _ _ gb101 43 #[.string (⟨#[]⟩ : ByteArray), .string (⟨#[]⟩ : ByteArray), .string (⟨#[]⟩ : ByteArray)] (0, 0) _ rfl (by (with_reducible repeat (first | refine ac_ ?_ _ | refine ah_ ?_ | refine ab_ ?_ _)); refine aF_ (cs := #[.string (⟨#[]⟩ : ByteArray), .string (⟨#[]⟩ : ByteArray), .string (⟨#[]⟩ : ByteArray)]) ?_ 2 _ rfl; (with_reducible repeat (first | refine ac_ ?_ _ | refine ah_ ?_ | refine ab_ ?_ _)); refine aF_ (cs := #[.string (⟨#[]⟩ : ByteArray), .string (⟨#[]⟩ : ByteArray), .string (⟨#[]⟩ : ByteArray)]) ?_ 1 _ rfl; (with_reducible repeat (first | refine ac_ ?_ _ | refine ah_ ?_ | refine ab_ ?_ _)); refine aF_ (cs := #[.string (⟨#[]⟩ : ByteArray), .string (⟨#[]⟩ : ByteArray), .string (⟨#[]⟩ : ByteArray)]) ?_ 0 _ rfl; (with_reducible repeat (first | refine ac_ ?_ _ | refine ah_ ?_ | refine ab_ ?_ _)); exact BK101.out) Tryd.underlying43 rfl (by kernel_rfl)) rfl ?_
   exact ⟨by first | rfl | (simp [*, aq_, ar_] <;> rfl), by repeat (first | (with_reducible first | exact HB.out | apply bA_ | apply bN_ | apply bD_ | refine am_ ?_ GE101.out) | exact HB.out)⟩
def ag_.l0 : Nat → List ByteArray → Int → List Int → Int → Option (List Int)
 | 0, _, _, _, _ => none
 | k + 1, x3, x4, x5, x6 => if x6 < x4 then (if 0 ≤ x6 then (if x6 < (x3.length : Int) then ((ai_.f k (rdOf ByteArray.empty x3 x6)).bind fun bt108 => (if bt108.2.2.2 = 0 then (ag_.l0 k x3 x4 x5 (wrap64 (x6 + 1))) else (if x5.length < 17592186044416 then (ag_.l0 k x3 x4 (x5 ++ [wrap64 (x6 + 1)]) (wrap64 (x6 + 1))) else (none)))) else (none)) else (none)) else (if 0 ≤ x4 then (if x4 < (x3.length : Int) then (if (rdOf ByteArray.empty x3 x4).toList = ([] : List UInt8) then (some x5) else (if x5.length < 17592186044416 then (some (x5 ++ [wrap64 (x4 + 1)])) else (none))) else (none)) else (none))
def ag_.f (k : Nat) (a0 : ByteArray) : Option (List Int) := (strings_Split.f a0 (⟨#[10]⟩ : ByteArray)).bind fun t101 => (ag_.l0 k t101 (wrap64 ((t101.length : Int) - 1)) (([] : List Int)) 1)
set_option maxHeartbeats 8000000 in
set_option maxRecDepth 100000 in
theorem ag_.calls (k : Nat) (a0 : ByteArray) (r : List Int) (w : World) (hTab_ : Tab_ w) (h : ag_.f k a0 = some r) :
  Calls Tryd.prog 8 #[.string a0] w fun e w' => ∃ v0_ : Value, e = .returned (v0_) ∧ Kd.R (Kd.int .i64) 2 w' w.heap.size (fun _ => True) v0_ r ∧ Below w.heap.size w w' := by
 have hu43 := Tryd.underlying43
 have HTab_ := Aside0.mk hTab_
 clear hTab_
 have HB := Aside0.mk (Below.refl w.heap.size w)
 have H : ((strings_Split.f a0 (⟨#[10]⟩ : ByteArray)).bind fun t101 => (ag_.l0 k t101 (wrap64 ((t101.length : Int) - 1)) (([] : List Int)) 1)) = some r := h
 clear h
 replace H := Option.bind_eq_some_iff.mp H
 obtain ⟨t101, A20, H⟩ := H
 (try dsimp only at H)
 have A2 := Aside0.mk A20
 clear A20
 obtain ⟨y104, hy104⟩ : ∃ y_ : List Int, y_ = (([] : List Int)) := ⟨_, rfl⟩
 replace H : (ag_.l0 k t101 (wrap64 ((t101.length : Int) - 1)) y104 1) = some r := by first | (rw [hy104]; with_reducible exact H) | (have H2_ := (Option.bind_some _ _).symm.trans H; rw [hy104]; with_reducible exact H2_) | (have H2_ := (Option.bind_some _ _).symm.trans H; with_reducible exact H2_) | with_reducible exact H | (rw [hy104]; exact H) | exact H
 have Ny104 := Aside0.mk hy104
 clear hy104
 have H' := Aside0.mk H
 clear H
 go_enter Tryd.func8, Tryd.ntmps8
 go_wp2_with (first | ((with_reducible refine ax_ (f := 28) rfl ?_); refine aX_ (some 10) rfl rfl Tryd.func28 (by kernel_rfl) rfl #[.string a0, .string (⟨#[10]⟩ : ByteArray)] rfl (by first | rfl | (simp only [List.map_toArray, List.map_cons, List.map_nil]; first | done | rfl)) ?_; (with_reducible refine (strings_Split.calls a0 (⟨#[10]⟩ : ByteArray) t101 _ ?side1 A2.out).mono ?_); (case side1 => exact bt_ HTab_.out (bz HB.out)); rintro e w3 ⟨v102, rfl, ho0, hb⟩; refine ⟨_, rfl, ?_⟩; have HO103 := Aside0.mk (Kd.bi_ ho0 (ao_ (bz HB.out))); replace HB := Aside0.mk (ay_ (bz HB.out) hb); (try clear hb); (try clear ho0); obtain ⟨Ao4, co4, eo4⟩ := Kd.bm_ HO103.out; subst eo4) | ((with_reducible refine bf_ (N := 14) rfl ?_); refine Kd.R_lit (Kd.int .i64) _ 2 ?hg (N := 14) ?hd (xs := ([] : List Int)) (inner := []) (ok := fun _ => True) (okp := fun _ => True) ?hr ?hp (fun _ hk => hk) trivial (Below.refl _ _) (Nat.le_refl _) (by simp) ?_; (case hd => rfl); (case hg => rfl); (case hr => (go_simp; try rfl)); (case hp => exact (Reps.none _ _)); intro v105 w5 ho6 hb hg_ hnew_; clear hg_ hnew_; (first | rw [← Ny104.out] at ho6 | (simp only [Int.reduceToNat] at ho6; rw [← Ny104.out] at ho6)); replace HO103 := Aside0.mk (Kd.bk_ (rz HO103.out) hb); have HO106 := Aside0.mk (Kd.bi_ ho6 (ao_ (bz HB.out))); replace HB := Aside0.mk (ay_ (bz HB.out) hb); clear hb ho6))
 (try simp only [Act.put, lsa_, ls0_, ls1_])
 go_loopg [5, 6] k (fun kq v5 v6 w' => ∃ (x5_1 : List Int) (x6_1 : Int), v6 = .int .i64 x6_1 ∧ Aside0 (ag_.l0 kq t101 (wrap64 ((t101.length : Int) - 1)) x5_1 x6_1 = some r) ∧ Aside0 (kq ≤ k) ∧ Aside0 (Kd.R Kd.string 9 w' w.heap.size (fun _ => True) (.slice Ao4 t101.length co4) t101) ∧ Aside0 (Kd.R (Kd.int .i64) 2 w' w.heap.size (fun _ => True) v5 x5_1) ∧ Aside0 (Below w.heap.size w w'))
 case atStart => exact ⟨(y104), (1), (by first | rfl | (simp; done) | (simp [*]; done)), H', ⟨Nat.le_refl _⟩, ⟨rz HO103.out⟩, ⟨rz HO106.out⟩, ⟨bz HB.out⟩⟩
 case round =>
  clear H'
  obtain ⟨x5_1, x6_1, rfl, HA, HK1, HO_3, HO_5, HB⟩ := hrel
  cases gk with
  | zero => exact absurd HA.out (by simp [ag_.l0])
  | succ k1 =>
   have H := HA.out
   clear HA
   simp only [ag_.l0] at H
   by_cases c7 : x6_1 < (wrap64 ((t101.length : Int) - 1))
   rotate_left
   ·rw [if_neg c7] at H
    have c7b0 : decide (x6_1 < (wrap64 ((t101.length : Int) - 1))) = false := decide_eq_false c7
    clear c7
    obtain ⟨ji18, hji18⟩ : ∃ j_ : Int, (wrap64 ((t101.length : Int) - 1)) = j_ := ⟨_, rfl⟩
    replace H : (if 0 ≤ (ji18) then (if (ji18) < (t101.length : Int) then (if (rdOf ByteArray.empty t101 (ji18)).toList = ([] : List UInt8) then (some x5_1) else (if x5_1.length < 17592186044416 then (some (x5_1 ++ [wrap64 ((ji18) + 1)])) else (none))) else (none)) else (none)) = some r := by first | (rw [hji18] at H; exact H) | (simp only [hji18] at H ⊢; exact H)
    (try rw [hji18] at c7b0)
    have hji18w : (IntKind.i64.wrap ((t101.length : Int) - 1)) = ji18 := (i64_w _).trans hji18
    by_cases c19 : 0 ≤ (ji18)
    rotate_left
    ·rw [if_neg c19] at H
     exact absurd H (by simp)
    rw [if_pos c19] at H
    have c19b0 : decide (0 ≤ (ji18)) = true := decide_eq_true c19
    clear c19
    by_cases c20 : (ji18) < (t101.length : Int)
    rotate_left
    ·rw [if_neg c20] at H
     exact absurd H (by simp)
    rw [if_pos c20] at H
    have c20b0 : decide ((ji18) < (t101.length : Int)) = true := decide_eq_true c20
    clear c20
    by_cases c21 : (rdOf ByteArray.empty t101 (ji18)).toList = ([] : List UInt8)
    rotate_left
    ·rw [if_neg c21] at H
     have c21b0 : ((rdOf ByteArray.empty t101 (ji18)).toList == ([] : List UInt8)) = false := beq_eq_false_iff_ne.mpr c21
     have c21b1 : ((rdOf ByteArray.empty t101 (ji18)).toList != ([] : List UInt8)) = true := bne_iff_ne.mpr c21
     (try (have c21b8 := c21b0; simp only [List.beq_nil_eq] at c21b8))
     by_cases c22 : x5_1.length < 17592186044416
     rotate_left
     ·rw [if_neg c22] at H
      exact absurd H (by simp)
     rw [if_pos c22] at H
     have LMc22 := Aside0.mk c22
     clear c22
     obtain ⟨y117, hy117⟩ : ∃ y_ : List Int, y_ = (x5_1 ++ [wrap64 ((ji18) + 1)]) := ⟨_, rfl⟩
     replace H : (some y117) = some r := by first | (rw [hy117]; with_reducible exact H) | (have H2_ := (Option.bind_some _ _).symm.trans H; rw [hy117]; with_reducible exact H2_) | (have H2_ := (Option.bind_some _ _).symm.trans H; with_reducible exact H2_) | with_reducible exact H | (rw [hy117]; exact H) | exact H
     have Ny117 := Aside0.mk hy117
     clear hy117
     obtain rfl := Option.some.inj H
     have p116 : 0 ≤ ((ji18) : Int) := of_decide_eq_true (by assumption)
     have q116 : (ji18) < (t101.length : Int) := of_decide_eq_true (by assumption)
     obtain ⟨ad116, e116, hx116_0⟩ := Kd.bh_ (Kd.aJ_ HO_3.out).2.2 (ji18) p116 q116
     cases e116
     replace p116 := eq_true p116
     replace q116 := eq_true q116
     go_wp2_with (first | ((with_reducible refine aW_ (b := .append) (xs := #[.tmp 40, .tmp 43]) rfl ?_); at_builtin; refine Kd.bo_ (Kd.int .i64) (w0 := w) w.heap.size rfl (.tmp 40) (.tmp 43) 22 2 (.int .i64 0) 8 rfl Tryd.underlying22 info2 rfl (by decide) (by omega) u5 x5_1 (wrap64 ((ji18) + 1)) [.int .i64 (wrap64 ((ji18) + 1))] (fun _ => True) (fun _ => False) rfl rfl ?aP (fun _ hk => hk.elim) ?aF ?aO ?aB ?aS ?aL ?_; (case aP => exact rfl); (case aB => exact (bz HB.out)); (case aF => exact (fun _ _ => trivial)); (case aO => exact (rz HO_5.out)); (case aS => exact (ao_ (bz HB.out))); (case aL => have := LMc22.out; omega); intro v118 w23 ho hb hg hat; rw [← Ny117.out] at ho; replace HO_3 := Aside0.mk (Kd.R_over' (rz HO_3.out) (Kd.R_typed (rz HO_5.out)) (by decide) hg); replace HB := Aside0.mk (hb); have HO119 := Aside0.mk (ho); clear HO_5; clear ho hb hg hat))
     go_ret
     exact ⟨_, by first | rfl | (simp [aq_, ar_] <;> rfl) | (simp only [← hji18]; first | rfl | (simp [aq_, ar_] <;> rfl)) | (simp [*, aq_, ar_] <;> rfl), rz HO119.out, bz HB.out⟩
    rw [if_pos c21] at H
    have c21b0 : ((rdOf ByteArray.empty t101 (ji18)).toList == ([] : List UInt8)) = true := beq_iff_eq.mpr c21
    have c21b1 : ((rdOf ByteArray.empty t101 (ji18)).toList != ([] : List UInt8)) = false := bne_eq_false_iff_eq.mpr c21
    (try (have c21b8 := c21b0; simp only [List.beq_nil_eq] at c21b8))
    clear c21
    obtain rfl := Option.some.inj H
    have p116 : 0 ≤ ((ji18) : Int) := of_decide_eq_true (by assumption)
    have q116 : (ji18) < (t101.length : Int) := of_decide_eq_true (by assumption)
    obtain ⟨ad116, e116, hx116_0⟩ := Kd.bh_ (Kd.aJ_ HO_3.out).2.2 (ji18) p116 q116
    cases e116
    replace p116 := eq_true p116
    replace q116 := eq_true q116
    go_wp2
    go_ret
    exact ⟨_, by first | rfl | (simp [aq_, ar_] <;> rfl) | (simp only [← hji18]; first | rfl | (simp [aq_, ar_] <;> rfl)) | (simp [*, aq_, ar_] <;> rfl), rz HO_5.out, bz HB.out⟩
   rw [if_pos c7] at H
   have c7b0 : decide (x6_1 < (wrap64 ((t101.length : Int) - 1))) = true := decide_eq_true c7
   clear c7
   by_cases c8 : 0 ≤ x6_1
   rotate_left
   ·rw [if_neg c8] at H
    exact absurd H (by simp)
   rw [if_pos c8] at H
   have c8b0 : decide (0 ≤ x6_1) = true := decide_eq_true c8
   clear c8
   by_cases c9 : x6_1 < (t101.length : Int)
   rotate_left
   ·rw [if_neg c9] at H
    exact absurd H (by simp)
   rw [if_pos c9] at H
   have c9b0 : decide (x6_1 < (t101.length : Int)) = true := decide_eq_true c9
   clear c9
   replace H := Option.bind_eq_some_iff.mp H
   obtain ⟨⟨t108, t109, t110, t111⟩, A100, H⟩ := H
   (try dsimp only at H)
   have A10 := Aside0.mk A100
   clear A100
   have HC11 := Aside0.mk H
   clear H
   have p107 : 0 ≤ (x6_1 : Int) := of_decide_eq_true (by assumption)
   have q107 : x6_1 < (t101.length : Int) := of_decide_eq_true (by assumption)
   obtain ⟨ad107, e107, hx107_0⟩ := Kd.bh_ (Kd.aJ_ HO_3.out).2.2 x6_1 p107 q107
   cases e107
   replace p107 := eq_true p107
   replace q107 := eq_true q107
   go_upto_if 29 with (first | ((with_reducible refine ax_ (f := 29) rfl ?_); refine aX_ (some 25) rfl rfl Tryd.func29 (by kernel_rfl) rfl #[.string (rdOf ByteArray.empty t101 x6_1)] rfl (by first | rfl | (simp only [List.map_toArray, List.map_cons, List.map_nil]; first | done | rfl)) ?_; (with_reducible refine (ai_.calls k1 (rdOf ByteArray.empty t101 x6_1) t108 t109 t110 t111 _ ?side1 A10.out).mono ?_); (case side1 => exact bt_ HTab_.out (bz HB.out)); rintro e w12 ⟨rfl, hb⟩; refine ⟨_, rfl, ?_⟩; replace HO_3 := Aside0.mk (Kd.bk_ (rz HO_3.out) hb); replace HO_5 := Aside0.mk (Kd.bk_ (rz HO_5.out) hb); replace HB := Aside0.mk (ay_ (bz HB.out) hb); (try clear hb)) | ((with_reducible refine bf_ (N := 7) rfl ?_); refine bs_ ?hg (N := 7) ?hd (cs := #[.string (⟨#[]⟩ : ByteArray), .string (⟨#[]⟩ : ByteArray), .string (⟨#[]⟩ : ByteArray)]) (t := 43) ?hr ?_; (case hd => rfl); (case hg => rfl); (case hr => (go_simp; try rfl)); intro gb112 hg w13 hbox hb; replace HO_3 := Aside0.mk (Kd.bk_ (rz HO_3.out) hb); replace HO_5 := Aside0.mk (Kd.bk_ (rz HO_5.out) hb); have BK112 := Aside0.mk (hbox); have GW112 := Aside0.mk ((by rw [hg]; exact (ao_ (bz HB.out)) : w.heap.size ≤ gb112)); have GE112 := Aside0.mk ((by rw [hg]; exact (ao_ (bz HB.out)) : w.heap.size ≤ gb112)); replace HB := Aside0.mk (ay_ (bz HB.out) hb); clear hb hbox hg; have hcz14_0 : w13.cell? ⟨gb112, 0, none⟩ = some (.string (⟨#[]⟩ : ByteArray)) := (an_ BK112.out 0).trans rfl; have hcz14_1 : w13.cell? ⟨gb112, 1, none⟩ = some (.string (⟨#[]⟩ : ByteArray)) := (an_ BK112.out 1).trans rfl; have hcz14_2 : w13.cell? ⟨gb112, 2, none⟩ = some (.string (⟨#[]⟩ : ByteArray)) := (an_ BK112.out 2).trans rfl; have hfz14_0 := ad_ BK112.out 0; have hfz14_1 := ad_ BK112.out 1; have hfz14_2 := ad_ BK112.out 2))
   (try simp only [Act.put, lsa_, ls0_, ls1_])
   have H := HC11.out
   clear HC11
   by_cases c15 : t111 = 0
   rotate_left
   ·rw [if_neg c15] at H
    have c15b0 : (t111 == 0) = false := beq_eq_false_iff_ne.mpr c15
    have c15b1 : (t111 != 0) = true := bne_iff_ne.mpr c15
    (first | rw [c15b0] | (simp only [i64_w, i32_w]; rw [c15b0]) | (simp only [c15b1, Bool.not_true, Bool.not_false]) | (simp only [c15b0, Bool.not_true, Bool.not_false]) | skip)
    by_cases c16 : x5_1.length < 17592186044416
    rotate_left
    ·rw [if_neg c16] at H
     exact absurd H (by simp)
    rw [if_pos c16] at H
    have LMc16 := Aside0.mk c16
    clear c16
    obtain ⟨y113, hy113⟩ : ∃ y_ : List Int, y_ = (x5_1 ++ [wrap64 (x6_1 + 1)]) := ⟨_, rfl⟩
    replace H : (ag_.l0 k1 t101 (wrap64 ((t101.length : Int) - 1)) y113 (wrap64 (x6_1 + 1))) = some r := by first | (rw [hy113]; with_reducible exact H) | (have H2_ := (Option.bind_some _ _).symm.trans H; rw [hy113]; with_reducible exact H2_) | (have H2_ := (Option.bind_some _ _).symm.trans H; with_reducible exact H2_) | with_reducible exact H | (rw [hy113]; exact H) | exact H
    have Ny113 := Aside0.mk hy113
    clear hy113
    have H' := Aside0.mk H
    clear H
    go_wp2_with (first | ((with_reducible refine aW_ (b := .append) (xs := #[.tmp 30, .tmp 33]) rfl ?_); at_builtin; refine Kd.bo_ (Kd.int .i64) (w0 := w) w.heap.size rfl (.tmp 30) (.tmp 33) 22 2 (.int .i64 0) 8 rfl Tryd.underlying22 info2 rfl (by decide) (by omega) u5 x5_1 (wrap64 (x6_1 + 1)) [.int .i64 (wrap64 (x6_1 + 1))] (fun _ => True) (fun _ => False) rfl (by first | (go_simp; done) | (go_simp; rfl)) ?aP (fun _ hk => hk.elim) ?aF ?aO ?aB ?aS ?aL ?_; (case aP => exact rfl); (case aB => exact (by repeat (first | (with_reducible first | exact HB.out | apply bA_ | apply bN_ | apply bD_ | refine am_ ?_ GE112.out) | exact HB.out))); (case aF => exact (fun _ _ => trivial)); (case aO => exact (rz (Kd.aY_ (Kd.R_far (p := ⟨gb112, 2, none⟩) (Kd.R_far (p := ⟨gb112, 1, none⟩) (Kd.R_far (p := ⟨gb112, 0, none⟩) (Kd.R_types HO_5.out BK112.out (by decide)) (fun _ hk => hk.2) (.string t108)) (fun _ hk => hk.2) (.string t109)) (fun _ hk => hk.2) (.string t110)) (fun _ hk => trivial)))); (case aS => exact (ao_ (by repeat (first | (with_reducible first | exact HB.out | apply bA_ | apply bN_ | apply bD_ | refine am_ ?_ GE112.out) | exact HB.out)))); (case aL => have := LMc16.out; omega); intro v114 w17 ho hb hg hat; rw [← Ny113.out] at ho; replace HO_3 := Aside0.mk (Kd.R_over' (rz (Kd.aY_ (Kd.R_far (p := ⟨gb112, 2, none⟩) (Kd.R_far (p := ⟨gb112, 1, none⟩) (Kd.R_far (p := ⟨gb112, 0, none⟩) (Kd.R_types HO_3.out BK112.out (by decide)) (fun _ hk => hk.2) (.string t108)) (fun _ hk => hk.2) (.string t109)) (fun _ hk => hk.2) (.string t110)) (fun _ h_ => h_.1))) (Kd.R_typed (rz (Kd.aY_ (Kd.R_far (p := ⟨gb112, 2, none⟩) (Kd.R_far (p := ⟨gb112, 1, none⟩) (Kd.R_far (p := ⟨gb112, 0, none⟩) (Kd.R_types HO_5.out BK112.out (by decide)) (fun _ hk => hk.2) (.string t108)) (fun _ hk => hk.2) (.string t109)) (fun _ hk => hk.2) (.string t110)) (fun _ h_ => h_.1)))) (by decide) hg); replace BK112 := Aside0.mk (blk_grown (g := gb112) (o := .cells #[.string t108, .string t109, .string t110] 43 (0, 0)) (by (with_reducible repeat (first | refine ac_ ?_ _ | refine ah_ ?_ | refine ab_ ?_ _)); refine aF_ (cs := #[.string t108, .string t109, .string (⟨#[]⟩ : ByteArray)]) ?_ 2 _ rfl; (with_reducible repeat (first | refine ac_ ?_ _ | refine ah_ ?_ | refine ab_ ?_ _)); refine aF_ (cs := #[.string t108, .string (⟨#[]⟩ : ByteArray), .string (⟨#[]⟩ : ByteArray)]) ?_ 1 _ rfl; (with_reducible repeat (first | refine ac_ ?_ _ | refine ah_ ?_ | refine ab_ ?_ _)); refine aF_ (cs := #[.string (⟨#[]⟩ : ByteArray), .string (⟨#[]⟩ : ByteArray), .string (⟨#[]⟩ : ByteArray)]) ?_ 0 _ rfl; (with_reducible repeat (first | refine ac_ ?_ _ | refine ah_ ?_ | refine ab_ ?_ _)); exact BK112.out) hg (Kd.R_ne HO_5.out BK112.out (by decide))); replace HB := Aside0.mk (hb); have HO115 := Aside0.mk (ho); clear HO_5; clear ho hb hg hat))
    go_roundg k1
    case measure => have := HK1.out; omega
    case rel => exact ⟨(y113), (wrap64 (x6_1 + 1)), (by first | rfl | (simp; done) | (simp [*]; done)), H', ⟨by have := HK1.out; omega⟩, ⟨rz HO_3.out⟩, ⟨rz HO115.out⟩, ⟨by repeat (first | (with_reducible first | exact HB.out | apply bA_ | apply bN_ | apply bD_ | refine am_ ?_ GE112.out) | exact HB.out)⟩⟩
   rw [if_pos c15] at H
   have c15b0 : (t111 == 0) = true := beq_iff_eq.mpr c15
   have c15b1 : (t111 != 0) = false := bne_eq_false_iff_eq.mpr c15
   clear c15
   (first | rw [c15b0] | (simp only [i64_w, i32_w]; rw [c15b0]) | (simp only [c15b1, Bool.not_true, Bool.not_false]) | (simp only [c15b0, Bool.not_true, Bool.not_false]) | skip)
   have H' := Aside0.mk H
   clear H
   go_wp2
   go_roundg k1
   case measure => have := HK1.out; omega
   case rel => exact ⟨(x5_1), (wrap64 (x6_1 + 1)), (by first | rfl | (simp; done) | (simp [*]; done)), H', ⟨by have := HK1.out; omega⟩, ⟨rz (Kd.aY_ (Kd.R_far (p := ⟨gb112, 2, none⟩) (Kd.R_far (p := ⟨gb112, 1, none⟩) (Kd.R_far (p := ⟨gb112, 0, none⟩) (Kd.R_types HO_3.out BK112.out (by decide)) (fun _ hk => hk.2) (.string t108)) (fun _ hk => hk.2) (.string t109)) (fun _ hk => hk.2) (.string t110)) (fun _ hk => trivial))⟩, ⟨rz (Kd.aY_ (Kd.R_far (p := ⟨gb112, 2, none⟩) (Kd.R_far (p := ⟨gb112, 1, none⟩) (Kd.R_far (p := ⟨gb112, 0, none⟩) (Kd.R_types HO_5.out BK112.out (by decide)) (fun _ hk => hk.2) (.string t108)) (fun _ hk => hk.2) (.string t109)) (fun _ hk => hk.2) (.string t110)) (fun _ hk => trivial))⟩, ⟨by repeat (first | (with_reducible first | exact HB.out | apply bA_ | apply bN_ | apply bD_ | refine am_ ?_ GE112.out) | exact HB.out)⟩⟩
def aA_.l0 : Nat → List Int → List Int → Int → Option (Bool)
 | 0, _, _, _ => none
 | k + 1, x0, x1, x5 => if x5 < (x0.length : Int) then (if 0 ≤ x5 then (if x5 < (x1.length : Int) then (if (rd x0 x5) = (rd x1 x5) then (aA_.l0 k x0 x1 (wrap64 (x5 + 1))) else (some false)) else (none)) else (none)) else (some true)
def aA_.f (k : Nat) (l0 : List Int) (l1 : List Int) : Option (Bool) := if (l0.length : Int) = (l1.length : Int) then (aA_.l0 k l0 l1 0) else (some false)
set_option maxHeartbeats 8000000 in
set_option maxRecDepth 100000 in
theorem aA_.calls (k : Nat) (A0 : Option Addr) (c0 : Nat) (l0 : List Int) (A1 : Option Addr) (c1 : Nat) (l1 : List Int) (r : Bool) (w : World) (hr0 : Kd.C (Kd.int .i64) w A0 l0.length l0) (hc0 : l0.length ≤ c0) (hr1 : Kd.C (Kd.int .i64) w A1 l1.length l1) (hc1 : l1.length ≤ c1) (h : aA_.f k l0 l1 = some r) :
  Calls Tryd.prog 9 #[.slice A0 l0.length c0, .slice A1 l1.length c1] w fun e w' => e = .returned (.bool r) ∧ af_ w w' := by
 have HR0 := Aside0.mk hr0
 have HC0 := Aside0.mk hc0
 clear hr0 hc0
 have HR1 := Aside0.mk hr1
 have HC1 := Aside0.mk hc1
 clear hr1 hc1
 have H : (if (l0.length : Int) = (l1.length : Int) then (aA_.l0 k l0 l1 0) else (some false)) = some r := h
 clear h
 by_cases c3 : (l0.length : Int) = (l1.length : Int)
 rotate_left
 ·rw [if_neg c3] at H
  have c3b0 : ((l0.length : Int) == (l1.length : Int)) = false := beq_eq_false_iff_ne.mpr c3
  have c3b1 : ((l0.length : Int) != (l1.length : Int)) = true := bne_iff_ne.mpr c3
  have c3b2 : (l0.length == l1.length) = false := by first | simpa using c3 | (simp at c3 ⊢; omega)
  obtain rfl := Option.some.inj H
  go_enter Tryd.func9, Tryd.ntmps9
  go_wp2
  repeat (go_quiet (fail); try go_wp2)
  go_ret
  exact ⟨by first | rfl | (simp; done) | (simp [*]; done), by repeat (first | exact af_.refl _ | apply af_.step)⟩
 rw [if_pos c3] at H
 have c3b0 : ((l0.length : Int) == (l1.length : Int)) = true := beq_iff_eq.mpr c3
 have c3b1 : ((l0.length : Int) != (l1.length : Int)) = false := bne_eq_false_iff_eq.mpr c3
 have c3b2 : (l0.length == l1.length) = true := by first | simpa using c3 | (simp at c3 ⊢; omega)
 clear c3
 have H' := Aside0.mk H
 clear H
 go_enter Tryd.func9, Tryd.ntmps9
 go_wp2
 repeat (go_quiet (fail); try go_wp2)
 (try simp only [Act.put, lsa_, ls0_, ls1_])
 go_loopg [5] k (fun kq v5 w' => ∃ (x5_1 : Int), v5 = .int .i64 x5_1 ∧ Aside0 (aA_.l0 kq l0 l1 x5_1 = some r) ∧ Aside0 (kq ≤ k) ∧ af_ w w')
 case atStart => exact ⟨(0), (by first | rfl | (simp; done) | (simp [*]; done)), H', ⟨Nat.le_refl _⟩, by repeat (first | exact af_.refl _ | apply af_.step)⟩
 case round =>
  clear H'
  obtain ⟨x5_1, rfl, HA, HK1, ⟨m1, rfl⟩⟩ := hrel
  cases gk with
  | zero => exact absurd HA.out (by simp [aA_.l0])
  | succ k1 =>
   have H := HA.out
   clear HA
   simp only [aA_.l0] at H
   by_cases c4 : x5_1 < (l0.length : Int)
   rotate_left
   ·rw [if_neg c4] at H
    have c4b0 : decide (x5_1 < (l0.length : Int)) = false := decide_eq_false c4
    clear c4
    obtain rfl := Option.some.inj H
    go_wp2
    repeat (go_quiet (fail); try go_wp2)
    go_ret
    exact ⟨by first | rfl | (simp; done) | (simp [*]; done), by repeat (first | exact af_.refl _ | apply af_.step)⟩
   rw [if_pos c4] at H
   have c4b0 : decide (x5_1 < (l0.length : Int)) = true := decide_eq_true c4
   clear c4
   by_cases c5 : 0 ≤ x5_1
   rotate_left
   ·rw [if_neg c5] at H
    exact absurd H (by simp)
   rw [if_pos c5] at H
   have c5b0 : decide (0 ≤ x5_1) = true := decide_eq_true c5
   clear c5
   by_cases c6 : x5_1 < (l1.length : Int)
   rotate_left
   ·rw [if_neg c6] at H
    exact absurd H (by simp)
   rw [if_pos c6] at H
   have c6b0 : decide (x5_1 < (l1.length : Int)) = true := decide_eq_true c6
   clear c6
   by_cases c7 : (rd l0 x5_1) = (rd l1 x5_1)
   rotate_left
   ·rw [if_neg c7] at H
    have c7b0 : ((rd l0 x5_1) == (rd l1 x5_1)) = false := beq_eq_false_iff_ne.mpr c7
    have c7b1 : ((rd l0 x5_1) != (rd l1 x5_1)) = true := bne_iff_ne.mpr c7
    obtain rfl := Option.some.inj H
    have p101 : 0 ≤ (x5_1 : Int) := of_decide_eq_true (by assumption)
    have q101 : x5_1 < (l0.length : Int) := of_decide_eq_true (by assumption)
    obtain ⟨ad101, e101, hx101_0⟩ := Kd.at_int HR0.out x5_1 p101 q101
    cases e101
    replace p101 := eq_true p101
    replace q101 := eq_true q101
    have p102 : 0 ≤ (x5_1 : Int) := of_decide_eq_true (by assumption)
    have q102 : x5_1 < (l1.length : Int) := of_decide_eq_true (by assumption)
    obtain ⟨ad102, e102, hx102_0⟩ := Kd.at_int HR1.out x5_1 p102 q102
    cases e102
    replace p102 := eq_true p102
    replace q102 := eq_true q102
    go_wp2
    repeat (go_quiet (fail); try go_wp2)
    go_ret
    exact ⟨by first | rfl | (simp; done) | (simp [*]; done), by repeat (first | exact af_.refl _ | apply af_.step)⟩
   rw [if_pos c7] at H
   have c7b0 : ((rd l0 x5_1) == (rd l1 x5_1)) = true := beq_iff_eq.mpr c7
   have c7b1 : ((rd l0 x5_1) != (rd l1 x5_1)) = false := bne_eq_false_iff_eq.mpr c7
   clear c7
   have H' := Aside0.mk H
   clear H
   have p101 : 0 ≤ (x5_1 : Int) := of_decide_eq_true (by assumption)
   have q101 : x5_1 < (l0.length : Int) := of_decide_eq_true (by assumption)
   obtain ⟨ad101, e101, hx101_0⟩ := Kd.at_int HR0.out x5_1 p101 q101
   cases e101
   replace p101 := eq_true p101
   replace q101 := eq_true q101
   have p102 : 0 ≤ (x5_1 : Int) := of_decide_eq_true (by assumption)
   have q102 : x5_1 < (l1.length : Int) := of_decide_eq_true (by assumption)
   obtain ⟨ad102, e102, hx102_0⟩ := Kd.at_int HR1.out x5_1 p102 q102
   cases e102
   replace p102 := eq_true p102
   replace q102 := eq_true q102
   go_wp2
   repeat (go_quiet (fail); try go_wp2)
   go_roundg k1
   case measure => have := HK1.out; omega
   case rel => exact ⟨(wrap64 (x5_1 + 1)), (by first | rfl | (simp; done) | (simp [*]; done)), H', ⟨by have := HK1.out; omega⟩, by repeat (first | exact af_.refl _ | apply af_.step)⟩
def av_.l0 : Nat → List Int → Int → Int → Option (Int × List Int)
 | 0, _, _, _ => none
 | k + 1, x0, x1, x5 => if x5 < (x0.length : Int) then (if 0 ≤ x5 then (av_.l0 k (x0.set (x5 : Int).toNat x1) (wrap64 (x1 + 1)) (wrap64 (x5 + 1))) else (none)) else (some (x1, x0))
def av_.f (k : Nat) (l0 : List Int) (a1 : Int) : Option (Int × List Int) := av_.l0 k l0 a1 0
set_option maxHeartbeats 8000000 in
set_option maxRecDepth 100000 in
theorem av_.calls (k : Nat) (P0_ : Nat → Prop) (u9000_ : Value) (l0 : List Int) (a1 : Int) (r1 : Int) (r2 : List Int) (w0 w : World) (hB : Below w0.heap.size w0 w) (ho0 : Kd.R (Kd.int .i64) 2 w w0.heap.size P0_ u9000_ l0) (h : av_.f k l0 a1 = some (r1, r2)) :
  Calls Tryd.prog 10 #[u9000_, .int .i64 a1] w fun e w' => e = .returned (.int .i64 r1) ∧ Kd.R (Kd.int .i64) 2 w' w0.heap.size (fun k_ => (P0_ k_ ∨ w.heap.size ≤ k_)) u9000_ r2 ∧ Below w0.heap.size w0 w' ∧ Kept w w' (fun k_ => P0_ k_) := by
 have HO0 := Aside0.mk (show Kd.R (Kd.int .i64) 2 w w0.heap.size (fun k_ => (P0_ k_ ∨ w.heap.size ≤ k_)) u9000_ l0 from Kd.aY_ ho0 (fun k_ hk => (.inl hk)))
 have HK := Aside0.mk (Kept.refl w (fun k_ => P0_ k_))
 have HW0 := Aside0.mk hB.size
 have HB := Aside0.mk hB
 clear hB
 have H : (av_.l0 k l0 a1 0) = some (r1, r2) := h
 clear h
 have H' := Aside0.mk H
 clear H
 go_enter Tryd.func10, Tryd.ntmps10
 go_wp2
 (try simp only [Act.put, lsa_, ls0_, ls1_])
 go_loopg [1, 5] k (fun kq v1 v5 w' => ∃ (x0_1 : List Int) (x1_1 : Int) (x5_1 : Int), v1 = .int .i64 x1_1 ∧ v5 = .int .i64 x5_1 ∧ Aside0 (av_.l0 kq x0_1 x1_1 x5_1 = some (r1, r2)) ∧ Aside0 (kq ≤ k) ∧ Aside0 (Kd.R (Kd.int .i64) 2 w' w0.heap.size (fun k_ => (P0_ k_ ∨ w.heap.size ≤ k_)) u9000_ x0_1) ∧ Aside0 (Kept w w' (fun k_ => P0_ k_)) ∧ Aside0 (Below w0.heap.size w0 w'))
 case atStart => exact ⟨(l0), (a1), (0), (by first | rfl | (simp; done) | (simp [*]; done)), (by first | rfl | (simp; done) | (simp [*]; done)), H', ⟨Nat.le_refl _⟩, ⟨rz HO0.out⟩, ⟨hz HK.out⟩, ⟨bz HB.out⟩⟩
 case round =>
  clear H'
  obtain ⟨x0_1, x1_1, x5_1, rfl, rfl, HA, HK1, HO_0, HK, HB⟩ := hrel
  cases gk with
  | zero => exact absurd HA.out (by simp [av_.l0])
  | succ k1 =>
   have H := HA.out
   clear HA
   simp only [av_.l0] at H
   by_cases c3 : x5_1 < (x0_1.length : Int)
   rotate_left
   ·rw [if_neg c3] at H
    have c3b0 : decide (x5_1 < (x0_1.length : Int)) = false := decide_eq_false c3
    clear c3
    simp only [Option.some.injEq, Prod.mk.injEq] at H
    obtain ⟨rfl, rfl⟩ := H
    obtain ⟨Ao9, co9, eo9⟩ := Kd.bm_ HO_0.out
    subst eo9
    go_wp2
    go_ret
    exact ⟨by first | rfl | (simp [*, aq_, ar_] <;> rfl), rz HO_0.out, bz HB.out, hz HK.out⟩
   rw [if_pos c3] at H
   have c3b0 : decide (x5_1 < (x0_1.length : Int)) = true := decide_eq_true c3
   clear c3
   by_cases c4 : 0 ≤ x5_1
   rotate_left
   ·rw [if_neg c4] at H
    exact absurd H (by simp)
   rw [if_pos c4] at H
   have c4b0 : decide (0 ≤ x5_1) = true := decide_eq_true c4
   clear c4
   obtain ⟨y101, hy101⟩ : ∃ y_ : List Int, y_ = (x0_1.set (x5_1 : Int).toNat x1_1) := ⟨_, rfl⟩
   replace H : (av_.l0 k1 y101 (wrap64 (x1_1 + 1)) (wrap64 (x5_1 + 1))) = some (r1, r2) := by first | (rw [hy101]; with_reducible exact H) | (have H2_ := (Option.bind_some _ _).symm.trans H; rw [hy101]; with_reducible exact H2_) | (have H2_ := (Option.bind_some _ _).symm.trans H; with_reducible exact H2_) | with_reducible exact H | (rw [hy101]; exact H) | exact H
   have Ny101 := Aside0.mk hy101
   clear hy101
   have H' := Aside0.mk H
   clear H
   obtain ⟨Ao6, co6, eo6⟩ := Kd.bm_ HO_0.out
   subst eo6
   have p5 : 0 ≤ (x5_1 : Int) := of_decide_eq_true (by assumption)
   have q5 : (x5_1 : Int) < ((x0_1.length : Int) : Int) := of_decide_eq_true (by assumption)
   obtain ⟨go5, co5, eo5, gb5, gl5, cl5, HG5⟩ := Kd.R_form HO_0.out (by omega)
   (first | cases eo5 | (injection eo5 with ea_ en_ ec_; (first | subst ea_ | (injection ea_ with ea_; subst ea_)); subst ec_; clear en_))
   have GB5 := Aside0.mk gb5
   have GG5 := Aside0.mk HG5
   clear gb5 gl5 HG5
   have HMgo5 := Aside0.mk (show (P0_ go5 ∨ w.heap.size ≤ go5) from (HO_0.out.1 _ rfl))
   obtain ⟨hx5_0, hf5_0⟩ := Kd.R_celln 0 HO_0.out (x5_1 : Int) p5 q5
   replace p5 := eq_true p5
   replace q5 := eq_true q5
   have HP7 := Kd.R_putg HO_0.out (x5_1 : Int) x1_1
   go_wp2_with (first | ((with_reducible refine gate_store (t := 2) (p := 15) rfl ?_); refine store_event (t := 2) (p := 15) (v := ?vo_w8) (w1 := (wr.setCell ⟨go5, (x5_1 : Int).toNat, none⟩ (.int .i64 x1_1))) ?hg ?ho ?hn ?hr ?_; (case ho => rfl); (case hg => rfl); (case hn => rfl); (case hr => (go_simp; try rfl)); intro w8 hw; have hg : wr.grownBy w8 (some go5) := (by rw [hw]; exact HP7.2); have hp_ : Kd.R (Kd.int .i64) 2 w8 w0.heap.size (fun k_ => (P0_ k_ ∨ w.heap.size ≤ k_)) (.slice (some ⟨go5, 0, none⟩) x0_1.length co6) y101 := (by rw [hw, Ny101.out]; exact HP7.1); clear HP7; replace HB := Aside0.mk ((by rw [hw]; exact am_ (HB.out) GB5.out : Below w0.heap.size w0 w8)); replace HK := Aside0.mk (Kept.of_grown (S := (fun k_ => P0_ k_)) hg (hz HK.out) (fun k_ e_ => (HO_0.out.1 k_ e_))); replace HO_0 := Aside0.mk (hp_); clear hg hw hp_))
   go_roundg k1
   case measure => have := HK1.out; omega
   case rel => exact ⟨(y101), (wrap64 (x1_1 + 1)), (wrap64 (x5_1 + 1)), (by first | rfl | (simp; done) | (simp [*]; done)), (by first | rfl | (simp; done) | (simp [*]; done)), H', ⟨by have := HK1.out; omega⟩, ⟨rz HO_0.out⟩, ⟨hz HK.out⟩, ⟨bz HB.out⟩⟩
def ap_.l0 : Nat → List Int → Int → Int → Option (Int)
 | 0, _, _, _ => none
 | k + 1, x0, x1, x5 => if x5 < (x0.length : Int) then (if 0 ≤ x5 then (if (rd x0 x5) = x1 then (ap_.l0 k x0 (wrap64 (x1 + 1)) (wrap64 (x5 + 1))) else (some (-1))) else (none)) else (some x1)
def ap_.f (k : Nat) (l0 : List Int) (a1 : Int) : Option (Int) := ap_.l0 k l0 a1 0
set_option maxHeartbeats 8000000 in
set_option maxRecDepth 100000 in
theorem ap_.calls (k : Nat) (A0 : Option Addr) (c0 : Nat) (l0 : List Int) (a1 : Int) (r : Int) (w : World) (hr0 : Kd.C (Kd.int .i64) w A0 l0.length l0) (hc0 : l0.length ≤ c0) (h : ap_.f k l0 a1 = some r) :
  Calls Tryd.prog 11 #[.slice A0 l0.length c0, .int .i64 a1] w fun e w' => e = .returned (.int .i64 r) ∧ af_ w w' := by
 have HR0 := Aside0.mk hr0
 have HC0 := Aside0.mk hc0
 clear hr0 hc0
 have H : (ap_.l0 k l0 a1 0) = some r := h
 clear h
 have H' := Aside0.mk H
 clear H
 go_enter Tryd.func11, Tryd.ntmps11
 go_wp2
 (try simp only [Act.put, lsa_, ls0_, ls1_])
 go_loopg [1, 5] k (fun kq v1 v5 w' => ∃ (x1_1 : Int) (x5_1 : Int), v1 = .int .i64 x1_1 ∧ v5 = .int .i64 x5_1 ∧ Aside0 (ap_.l0 kq l0 x1_1 x5_1 = some r) ∧ Aside0 (kq ≤ k) ∧ af_ w w')
 case atStart => exact ⟨(a1), (0), (by first | rfl | (simp; done) | (simp [*]; done)), (by first | rfl | (simp; done) | (simp [*]; done)), H', ⟨Nat.le_refl _⟩, by repeat (first | exact af_.refl _ | apply af_.step)⟩
 case round =>
  clear H'
  obtain ⟨x1_1, x5_1, rfl, rfl, HA, HK1, ⟨m1, rfl⟩⟩ := hrel
  cases gk with
  | zero => exact absurd HA.out (by simp [ap_.l0])
  | succ k1 =>
   have H := HA.out
   clear HA
   simp only [ap_.l0] at H
   by_cases c3 : x5_1 < (l0.length : Int)
   rotate_left
   ·rw [if_neg c3] at H
    have c3b0 : decide (x5_1 < (l0.length : Int)) = false := decide_eq_false c3
    clear c3
    obtain rfl := Option.some.inj H
    go_wp2
    go_ret
    exact ⟨by first | rfl | (simp; done) | (simp [*]; done), by repeat (first | exact af_.refl _ | apply af_.step)⟩
   rw [if_pos c3] at H
   have c3b0 : decide (x5_1 < (l0.length : Int)) = true := decide_eq_true c3
   clear c3
   by_cases c4 : 0 ≤ x5_1
   rotate_left
   ·rw [if_neg c4] at H
    exact absurd H (by simp)
   rw [if_pos c4] at H
   have c4b0 : decide (0 ≤ x5_1) = true := decide_eq_true c4
   clear c4
   by_cases c5 : (rd l0 x5_1) = x1_1
   rotate_left
   ·rw [if_neg c5] at H
    have c5b0 : ((rd l0 x5_1) == x1_1) = false := beq_eq_false_iff_ne.mpr c5
    have c5b1 : ((rd l0 x5_1) != x1_1) = true := bne_iff_ne.mpr c5
    obtain rfl := Option.some.inj H
    have p101 : 0 ≤ (x5_1 : Int) := of_decide_eq_true (by assumption)
    have q101 : x5_1 < (l0.length : Int) := of_decide_eq_true (by assumption)
    obtain ⟨ad101, e101, hx101_0⟩ := Kd.at_int HR0.out x5_1 p101 q101
    cases e101
    replace p101 := eq_true p101
    replace q101 := eq_true q101
    go_wp2
    go_ret
    exact ⟨by first | rfl | (simp; done) | (simp [*]; done), by repeat (first | exact af_.refl _ | apply af_.step)⟩
   rw [if_pos c5] at H
   have c5b0 : ((rd l0 x5_1) == x1_1) = true := beq_iff_eq.mpr c5
   have c5b1 : ((rd l0 x5_1) != x1_1) = false := bne_eq_false_iff_eq.mpr c5
   clear c5
   have H' := Aside0.mk H
   clear H
   have p101 : 0 ≤ (x5_1 : Int) := of_decide_eq_true (by assumption)
   have q101 : x5_1 < (l0.length : Int) := of_decide_eq_true (by assumption)
   obtain ⟨ad101, e101, hx101_0⟩ := Kd.at_int HR0.out x5_1 p101 q101
   cases e101
   replace p101 := eq_true p101
   replace q101 := eq_true q101
   go_wp2
   go_roundg k1
   case measure => have := HK1.out; omega
   case rel => exact ⟨(wrap64 (x1_1 + 1)), (wrap64 (x5_1 + 1)), (by first | rfl | (simp; done) | (simp [*]; done)), (by first | rfl | (simp; done) | (simp [*]; done)), H', ⟨by have := HK1.out; omega⟩, by repeat (first | exact af_.refl _ | apply af_.step)⟩
def au_.f (k : Nat) (a0 : ByteArray) : Option (Bool) := if (a0.size : Int) > 1048576 then (some true) else ((aj_.f k a0).bind fun t101 => ((ag_.f k a0).bind fun t104 => ((aA_.f k t104 t101).bind fun t107 => (if t107 = true then ((av_.f k t104 1).bind fun bt108 => ((ap_.f k bt108.2 1).bind fun t110 => (if t110 < 0 then (some false) else (if t110 = bt108.1 then ((ag_.f k a0).bind fun t111 => ((aA_.f k t111 t101).bind fun t114 => (if t114 = true then ((ap_.f k bt108.2 1).bind fun t115 => (if t115 < 0 then (some false) else (if t115 = bt108.1 then (some true) else (some false)))) else (some false)))) else (some false))))) else (some false)))))
set_option maxHeartbeats 8000000 in
set_option maxRecDepth 100000 in
theorem au_.calls (k : Nat) (a0 : ByteArray) (r : Bool) (w : World) (hTab_ : Tab_ w) (h : au_.f k a0 = some r) :
  Calls Tryd.prog 3 #[.string a0] w fun e w' => e = .returned (.bool r) ∧ Below w.heap.size w w' := by
 have HTab_ := Aside0.mk hTab_
 clear hTab_
 have HB := Aside0.mk (Below.refl w.heap.size w)
 have H : (if (a0.size : Int) > 1048576 then (some true) else ((aj_.f k a0).bind fun t101 => ((ag_.f k a0).bind fun t104 => ((aA_.f k t104 t101).bind fun t107 => (if t107 = true then ((av_.f k t104 1).bind fun bt108 => ((ap_.f k bt108.2 1).bind fun t110 => (if t110 < 0 then (some false) else (if t110 = bt108.1 then ((ag_.f k a0).bind fun t111 => ((aA_.f k t111 t101).bind fun t114 => (if t114 = true then ((ap_.f k bt108.2 1).bind fun t115 => (if t115 < 0 then (some false) else (if t115 = bt108.1 then (some true) else (some false)))) else (some false)))) else (some false))))) else (some false)))))) = some r := h
 clear h
 by_cases c2 : (a0.size : Int) > 1048576
 rotate_left
 ·rw [if_neg c2] at H
  have c2b0 : decide (1048576 < (a0.size : Int)) = false := decide_eq_false c2
  have c2b1 : decide (1048576 < a0.size) = false := decide_eq_false (by omega)
  clear c2
  replace H := Option.bind_eq_some_iff.mp H
  obtain ⟨t101, A30, H⟩ := H
  (try dsimp only at H)
  have A3 := Aside0.mk A30
  clear A30
  replace H := Option.bind_eq_some_iff.mp H
  obtain ⟨t104, A40, H⟩ := H
  (try dsimp only at H)
  have A4 := Aside0.mk A40
  clear A40
  replace H := Option.bind_eq_some_iff.mp H
  obtain ⟨t107, A50, H⟩ := H
  (try dsimp only at H)
  have A5 := Aside0.mk A50
  clear A50
  have HC6 := Aside0.mk H
  clear H
  go_enter Tryd.func3, Tryd.ntmps3
  go_upto_if 18 with (first | ((with_reducible refine ax_ (f := 7) rfl ?_); refine aX_ (some 12) rfl rfl Tryd.func7 (by kernel_rfl) rfl #[.string a0] rfl (by first | rfl | (simp only [List.map_toArray, List.map_cons, List.map_nil]; first | done | rfl)) ?_; (with_reducible refine (aj_.calls k a0 t101 _ A3.out).mono ?_); rintro e w7 ⟨v102, rfl, ho0, hb⟩; refine ⟨_, rfl, ?_⟩; have HO103 := Aside0.mk (Kd.bi_ ho0 (ao_ (bz HB.out))); replace HB := Aside0.mk (ay_ (bz HB.out) hb); (try clear hb); (try clear ho0)) | ((with_reducible refine ax_ (f := 8) rfl ?_); refine aX_ (some 14) rfl rfl Tryd.func8 (by kernel_rfl) rfl #[.string a0] rfl (by first | rfl | (simp only [List.map_toArray, List.map_cons, List.map_nil]; first | done | rfl)) ?_; (with_reducible refine (ag_.calls k a0 t104 _ ?side1 A4.out).mono ?_); (case side1 => exact bt_ HTab_.out (bz HB.out)); rintro e w8 ⟨v105, rfl, ho0, hb⟩; refine ⟨_, rfl, ?_⟩; have HO106 := Aside0.mk (Kd.bi_ (Kd.R_new' ho0 (Kd.R_lt (rz HO103.out))) (ao_ (bz HB.out))); replace HO103 := Aside0.mk (Kd.R_elder' (rz HO103.out) (Kd.R_base ho0) hb); replace HB := Aside0.mk (ay_ (bz HB.out) hb); (try clear hb); (try clear ho0); obtain ⟨Ao9, co9, eo9⟩ := Kd.bm_ HO106.out; subst eo9; obtain ⟨Ao10, co10, eo10⟩ := Kd.bm_ HO103.out; subst eo10) | ((with_reducible refine ax_ (f := 9) rfl ?_); refine aX_ (some 17) rfl rfl Tryd.func9 (by kernel_rfl) rfl #[.slice Ao9 t104.length co9, .slice Ao10 t101.length co10] rfl (by first | rfl | (simp only [List.map_toArray, List.map_cons, List.map_nil]; first | done | rfl)) ?_; (with_reducible refine (aA_.calls k _ _ t104 _ _ t101 t107 _ ?side1 ?side2 ?side3 ?side4 A5.out).mono ?_); (case side1 => exact cz (Kd.aJ_ HO106.out).2.2); (case side2 => exact (Kd.aJ_ HO106.out).2.1); (case side3 => exact cz (Kd.aJ_ HO103.out).2.2); (case side4 => exact (Kd.aJ_ HO103.out).2.1); rintro e w' ⟨rfl, ⟨nd, rfl⟩⟩; refine ⟨_, rfl, ?_⟩; (try (rw [drewN_self w8]; generalize hq_ : World.drewN w8 _ = w8; have n0_ : Aside0 (Kd.R (Kd.int .i64) 2 w8 w.heap.size (fun k_ => (True ∧ some k_ ≠ (.slice Ao9 t104.length co9 : Value).ownBlock)) (.slice Ao10 t101.length co10) t101) := ⟨by rw [← hq_]; exact (rz HO103.out)⟩; have n1_ : Aside0 (Kd.R (Kd.int .i64) 2 w8 w.heap.size (fun k_ => (True ∧ some k_ ≠ (.slice Ao10 t101.length co10 : Value).ownBlock)) (.slice Ao9 t104.length co9) t104) := ⟨by rw [← hq_]; exact (rz HO106.out)⟩; have n2_ : Aside0 (Below w.heap.size w w8) := ⟨by rw [← hq_]; exact (bz HB.out)⟩; clear HO103 HO106 HB hq_; have HO103 := n0_; have HO106 := n1_; have HB := n2_; clear n0_ n1_ n2_))))
  (try simp only [Act.put, lsa_, ls0_, ls1_])
  have H := HC6.out
  clear HC6
  by_cases c11 : t107 = true
  rotate_left
  ·replace c11 := Bool.eq_false_iff.mpr c11
   subst c11
   have H1 : (some false) = some r := by rw [if_neg (show ¬ (false = true) by decide)] at H; exact H
   clear H
   have H := H1
   clear H1
   obtain rfl := Option.some.inj H
   go_wp2
   go_ret
   exact ⟨by first | rfl | (simp [*, aq_, ar_] <;> rfl), bz HB.out⟩
  subst c11
  have H1 : ((av_.f k t104 1).bind fun bt108 => ((ap_.f k bt108.2 1).bind fun t110 => (if t110 < 0 then (some false) else (if t110 = bt108.1 then ((ag_.f k a0).bind fun t111 => ((aA_.f k t111 t101).bind fun t114 => (if t114 = true then ((ap_.f k bt108.2 1).bind fun t115 => (if t115 < 0 then (some false) else (if t115 = bt108.1 then (some true) else (some false)))) else (some false)))) else (some false))))) = some r := by rw [if_pos rfl] at H; exact H
  clear H
  have H := H1
  clear H1
  replace H := Option.bind_eq_some_iff.mp H
  obtain ⟨⟨t108, t109⟩, A120, H⟩ := H
  (try dsimp only at H)
  have A12 := Aside0.mk A120
  clear A120
  replace H := Option.bind_eq_some_iff.mp H
  obtain ⟨t110, A130, H⟩ := H
  (try dsimp only at H)
  have A13 := Aside0.mk A130
  clear A130
  have HC14 := Aside0.mk H
  clear H
  go_upto_if 26 with (first | ((with_reducible refine ax_ (f := 10) rfl ?_); refine aX_ (some 21) rfl rfl Tryd.func10 (by kernel_rfl) rfl #[.slice Ao9 t104.length co9, .int .i64 1] rfl (by first | rfl | (simp only [List.map_toArray, List.map_cons, List.map_nil]; first | done | rfl)) ?_; (with_reducible refine (av_.calls k (fun k_ => some k_ = (.slice Ao9 t104.length co9 : Value).ownBlock) (.slice Ao9 t104.length co9) t104 1 t108 t109 w _ ?side1 ?side2 A12.out).mono ?_); (case side1 => exact bz HB.out); (case side2 => exact Kd.R_tight rfl HO106.out); rintro e w15 ⟨rfl, hy0, hb, hkp⟩; refine ⟨_, rfl, ?_⟩; replace HO103 := Aside0.mk (Kd.aY_ (ok' := fun k_ => some k_ ≠ (.slice Ao9 t104.length co9 : Value).ownBlock) (Kd.R_keptB (HO103.out) hkp (fun k_ hk_ hs_ => (hk_.2) hs_)) (fun k_ hk_ => hk_.1.2)); replace HO106 := Aside0.mk (Kd.R_reok rfl hy0 (fun k_ e_ => HO106.out.1 k_ e_)); replace HB := Aside0.mk (hb); (try clear hb); (try clear hkp); (try clear hy0)) | ((with_reducible refine ax_ (f := 11) rfl ?_); refine aX_ (some 24) rfl rfl Tryd.func11 (by kernel_rfl) rfl #[.slice Ao9 t109.length co9, .int .i64 1] rfl (by (try simp only [List.map_toArray, List.map_cons, List.map_nil]); first | done | (rw [show t109.length = t104.length from (Kd.aJ_ HO106.out).1.symm] <;> rfl) | rfl | (simp only [List.length_drop, List.length_take]; rfl)) ?_; (with_reducible refine (ap_.calls k _ _ t109 1 t110 _ ?side1 ?side2 A13.out).mono ?_); (case side1 => exact cz (Kd.aJ_ HO106.out).2.2); (case side2 => rw [show t109.length = t104.length from (Kd.aJ_ HO106.out).1.symm]; exact (Kd.aJ_ HO106.out).2.1); rintro e w' ⟨rfl, ⟨nd, rfl⟩⟩; refine ⟨_, rfl, ?_⟩; (try (rw [drewN_self w15]; generalize hq_ : World.drewN w15 _ = w15; have n0_ : Aside0 (Kd.R (Kd.int .i64) 2 w15 w.heap.size (fun k_ => some k_ ≠ (.slice Ao9 t104.length co9 : Value).ownBlock) (.slice Ao10 t101.length co10) t101) := ⟨by rw [← hq_]; exact (rz HO103.out)⟩; have n1_ : Aside0 (Kd.R (Kd.int .i64) 2 w15 w.heap.size (fun k_ => (True ∧ some k_ ≠ (.slice Ao10 t101.length co10 : Value).ownBlock)) (.slice Ao9 t104.length co9) t109) := ⟨by rw [← hq_]; exact (rz HO106.out)⟩; have n2_ : Aside0 (Below w.heap.size w w15) := ⟨by rw [← hq_]; exact (bz HB.out)⟩; clear HO103 HO106 HB hq_; have HO103 := n0_; have HO106 := n1_; have HB := n2_; clear n0_ n1_ n2_))))
  (try simp only [Act.put, lsa_, ls0_, ls1_])
  have H := HC14.out
  clear HC14
  by_cases c16 : t110 < 0
  rotate_left
  ·rw [if_neg c16] at H
   have c16b0 : decide (t110 < 0) = false := decide_eq_false c16
   clear c16
   (first | rw [c16b0] | (simp only [i64_w, i32_w]; rw [c16b0]) | (simp only [c16b1, Bool.not_true, Bool.not_false]) | (simp only [c16b0, Bool.not_true, Bool.not_false]) | skip)
   by_cases c17 : t110 = t108
   rotate_left
   ·rw [if_neg c17] at H
    have c17b0 : (t110 == t108) = false := beq_eq_false_iff_ne.mpr c17
    have c17b1 : (t110 != t108) = true := bne_iff_ne.mpr c17
    obtain rfl := Option.some.inj H
    go_wp2
    go_ret
    exact ⟨by first | rfl | (simp [*, aq_, ar_] <;> rfl), bz HB.out⟩
   rw [if_pos c17] at H
   have c17b0 : (t110 == t108) = true := beq_iff_eq.mpr c17
   have c17b1 : (t110 != t108) = false := bne_eq_false_iff_eq.mpr c17
   clear c17
   replace H := Option.bind_eq_some_iff.mp H
   obtain ⟨t111, A180, H⟩ := H
   (try dsimp only at H)
   have A18 := Aside0.mk A180
   clear A180
   replace H := Option.bind_eq_some_iff.mp H
   obtain ⟨t114, A190, H⟩ := H
   (try dsimp only at H)
   have A19 := Aside0.mk A190
   clear A190
   have HC20 := Aside0.mk H
   clear H
   go_upto_if 35 with (first | ((with_reducible refine ax_ (f := 8) rfl ?_); refine aX_ (some 31) rfl rfl Tryd.func8 (by kernel_rfl) rfl #[.string a0] rfl (by first | rfl | (simp only [List.map_toArray, List.map_cons, List.map_nil]; first | done | rfl)) ?_; (with_reducible refine (ag_.calls k a0 t111 _ ?side1 A18.out).mono ?_); (case side1 => exact bt_ HTab_.out (bz HB.out)); rintro e w21 ⟨v112, rfl, ho0, hb⟩; refine ⟨_, rfl, ?_⟩; have HO113 := Aside0.mk (Kd.bi_ (Kd.R_new' (Kd.R_new' ho0 (Kd.R_lt (rz HO103.out))) (Kd.R_lt (rz HO106.out))) (ao_ (bz HB.out))); replace HO103 := Aside0.mk (Kd.R_elder' (rz HO103.out) (Kd.R_base ho0) hb); replace HO106 := Aside0.mk (Kd.R_elder' (rz HO106.out) (Kd.R_base ho0) hb); replace HB := Aside0.mk (ay_ (bz HB.out) hb); (try clear hb); (try clear ho0); obtain ⟨Ao22, co22, eo22⟩ := Kd.bm_ HO113.out; subst eo22) | ((with_reducible refine ax_ (f := 9) rfl ?_); refine aX_ (some 34) rfl rfl Tryd.func9 (by kernel_rfl) rfl #[.slice Ao22 t111.length co22, .slice Ao10 t101.length co10] rfl (by first | rfl | (simp only [List.map_toArray, List.map_cons, List.map_nil]; first | done | rfl)) ?_; (with_reducible refine (aA_.calls k _ _ t111 _ _ t101 t114 _ ?side1 ?side2 ?side3 ?side4 A19.out).mono ?_); (case side1 => exact cz (Kd.aJ_ HO113.out).2.2); (case side2 => exact (Kd.aJ_ HO113.out).2.1); (case side3 => exact cz (Kd.aJ_ HO103.out).2.2); (case side4 => exact (Kd.aJ_ HO103.out).2.1); rintro e w' ⟨rfl, ⟨nd, rfl⟩⟩; refine ⟨_, rfl, ?_⟩; (try (rw [drewN_self w21]; generalize hq_ : World.drewN w21 _ = w21; have n0_ : Aside0 (Kd.R (Kd.int .i64) 2 w21 w.heap.size (fun k_ => (some k_ ≠ (.slice Ao9 t104.length co9 : Value).ownBlock ∧ some k_ ≠ (.slice Ao22 t111.length co22 : Value).ownBlock)) (.slice Ao10 t101.length co10) t101) := ⟨by rw [← hq_]; exact (rz HO103.out)⟩; have n1_ : Aside0 (Kd.R (Kd.int .i64) 2 w21 w.heap.size (fun k_ => ((True ∧ some k_ ≠ (.slice Ao10 t101.length co10 : Value).ownBlock) ∧ some k_ ≠ (.slice Ao22 t111.length co22 : Value).ownBlock)) (.slice Ao9 t104.length co9) t109) := ⟨by rw [← hq_]; exact (rz HO106.out)⟩; have n2_ : Aside0 (Kd.R (Kd.int .i64) 2 w21 w.heap.size (fun k_ => ((True ∧ some k_ ≠ (.slice Ao10 t101.length co10 : Value).ownBlock) ∧ some k_ ≠ (.slice Ao9 t104.length co9 : Value).ownBlock)) (.slice Ao22 t111.length co22) t111) := ⟨by rw [← hq_]; exact (rz HO113.out)⟩; have n3_ : Aside0 (Below w.heap.size w w21) := ⟨by rw [← hq_]; exact (bz HB.out)⟩; clear HO103 HO106 HO113 HB hq_; have HO103 := n0_; have HO106 := n1_; have HO113 := n2_; have HB := n3_; clear n0_ n1_ n2_ n3_))))
   (try simp only [Act.put, lsa_, ls0_, ls1_])
   have H := HC20.out
   clear HC20
   by_cases c23 : t114 = true
   rotate_left
   ·replace c23 := Bool.eq_false_iff.mpr c23
    subst c23
    have H1 : (some false) = some r := by rw [if_neg (show ¬ (false = true) by decide)] at H; exact H
    clear H
    have H := H1
    clear H1
    obtain rfl := Option.some.inj H
    go_wp2
    go_ret
    exact ⟨by first | rfl | (simp [*, aq_, ar_] <;> rfl), bz HB.out⟩
   subst c23
   have H1 : ((ap_.f k t109 1).bind fun t115 => (if t115 < 0 then (some false) else (if t115 = t108 then (some true) else (some false)))) = some r := by rw [if_pos rfl] at H; exact H
   clear H
   have H := H1
   clear H1
   replace H := Option.bind_eq_some_iff.mp H
   obtain ⟨t115, A240, H⟩ := H
   (try dsimp only at H)
   have A24 := Aside0.mk A240
   clear A240
   have HC25 := Aside0.mk H
   clear H
   go_upto_if 40 with (first | ((with_reducible refine ax_ (f := 11) rfl ?_); refine aX_ (some 38) rfl rfl Tryd.func11 (by kernel_rfl) rfl #[.slice Ao9 t109.length co9, .int .i64 1] rfl (by (try simp only [List.map_toArray, List.map_cons, List.map_nil]); first | done | (rw [show t109.length = t104.length from (Kd.aJ_ HO106.out).1.symm] <;> rfl) | rfl | (simp only [List.length_drop, List.length_take]; rfl)) ?_; (with_reducible refine (ap_.calls k _ _ t109 1 t115 _ ?side1 ?side2 A24.out).mono ?_); (case side1 => exact cz (Kd.aJ_ HO106.out).2.2); (case side2 => rw [show t109.length = t104.length from (Kd.aJ_ HO106.out).1.symm]; exact (Kd.aJ_ HO106.out).2.1); rintro e w' ⟨rfl, ⟨nd, rfl⟩⟩; refine ⟨_, rfl, ?_⟩; (try (rw [drewN_self w21]; generalize hq_ : World.drewN w21 _ = w21; have n0_ : Aside0 (Kd.R (Kd.int .i64) 2 w21 w.heap.size (fun k_ => (some k_ ≠ (.slice Ao9 t104.length co9 : Value).ownBlock ∧ some k_ ≠ (.slice Ao22 t111.length co22 : Value).ownBlock)) (.slice Ao10 t101.length co10) t101) := ⟨by rw [← hq_]; exact (rz HO103.out)⟩; have n1_ : Aside0 (Kd.R (Kd.int .i64) 2 w21 w.heap.size (fun k_ => ((True ∧ some k_ ≠ (.slice Ao10 t101.length co10 : Value).ownBlock) ∧ some k_ ≠ (.slice Ao22 t111.length co22 : Value).ownBlock)) (.slice Ao9 t104.length co9) t109) := ⟨by rw [← hq_]; exact (rz HO106.out)⟩; have n2_ : Aside0 (Kd.R (Kd.int .i64) 2 w21 w.heap.size (fun k_ => ((True ∧ some k_ ≠ (.slice Ao10 t101.length co10 : Value).ownBlock) ∧ some k_ ≠ (.slice Ao9 t104.length co9 : Value).ownBlock)) (.slice Ao22 t111.length co22) t111) := ⟨by rw [← hq_]; exact (rz HO113.out)⟩; have n3_ : Aside0 (Below w.heap.size w w21) := ⟨by rw [← hq_]; exact (bz HB.out)⟩; clear HO103 HO106 HO113 HB hq_; have HO103 := n0_; have HO106 := n1_; have HO113 := n2_; have HB := n3_; clear n0_ n1_ n2_ n3_))))
   (try simp only [Act.put, lsa_, ls0_, ls1_])
   have H := HC25.out
   clear HC25
   by_cases c26 : t115 < 0
   rotate_left
   ·rw [if_neg c26] at H
    have c26b0 : decide (t115 < 0) = false := decide_eq_false c26
    clear c26
    (first | rw [c26b0] | (simp only [i64_w, i32_w]; rw [c26b0]) | (simp only [c26b1, Bool.not_true, Bool.not_false]) | (simp only [c26b0, Bool.not_true, Bool.not_false]) | skip)
    by_cases c27 : t115 = t108
    rotate_left
    ·rw [if_neg c27] at H
     have c27b0 : (t115 == t108) = false := beq_eq_false_iff_ne.mpr c27
     have c27b1 : (t115 != t108) = true := bne_iff_ne.mpr c27
     obtain rfl := Option.some.inj H
     go_wp2
     go_ret
     exact ⟨by first | rfl | (simp [*, aq_, ar_] <;> rfl), bz HB.out⟩
    rw [if_pos c27] at H
    have c27b0 : (t115 == t108) = true := beq_iff_eq.mpr c27
    have c27b1 : (t115 != t108) = false := bne_eq_false_iff_eq.mpr c27
    clear c27
    obtain rfl := Option.some.inj H
    go_wp2
    go_ret
    exact ⟨by first | rfl | (simp [*, aq_, ar_] <;> rfl), bz HB.out⟩
   rw [if_pos c26] at H
   have c26b0 : decide (t115 < 0) = true := decide_eq_true c26
   clear c26
   (first | rw [c26b0] | (simp only [i64_w, i32_w]; rw [c26b0]) | (simp only [c26b1, Bool.not_true, Bool.not_false]) | (simp only [c26b0, Bool.not_true, Bool.not_false]) | skip)
   obtain rfl := Option.some.inj H
   go_wp2
   go_ret
   exact ⟨by first | rfl | (simp [*, aq_, ar_] <;> rfl), bz HB.out⟩
  rw [if_pos c16] at H
  have c16b0 : decide (t110 < 0) = true := decide_eq_true c16
  clear c16
  (first | rw [c16b0] | (simp only [i64_w, i32_w]; rw [c16b0]) | (simp only [c16b1, Bool.not_true, Bool.not_false]) | (simp only [c16b0, Bool.not_true, Bool.not_false]) | skip)
  obtain rfl := Option.some.inj H
  go_wp2
  go_ret
  exact ⟨by first | rfl | (simp [*, aq_, ar_] <;> rfl), bz HB.out⟩
 rw [if_pos c2] at H
 have c2b0 : decide (1048576 < (a0.size : Int)) = true := decide_eq_true c2
 have c2b1 : decide (1048576 < a0.size) = true := decide_eq_true (by omega)
 clear c2
 obtain rfl := Option.some.inj H
 go_enter Tryd.func3, Tryd.ntmps3
 go_wp2
 go_ret
 exact ⟨by first | rfl | (simp [*, aq_, ar_] <;> rfl), bz HB.out⟩
def au_.Pure : Prop := ∀ (x0 : ByteArray), x0.size ≤ maxLen → ∃ k, au_.f k x0 = some true
end Go.Proofs.YtjebkmfljcanlaaDoor.Q
namespace Go.Proofs.YtjebkmfljcanlaaDoor.Q
open Go.RowKit Go.Proofs.YtjebkmfljcanlaaDoorW.PrintWords Go.Proofs.YtjebkmfljcanlaaDoorW.PrintLast Go.Proofs.YtjebkmfljcanlaaDoorW.PrintMore
theorem wr64 {x : Int} (h0 : -9223372036854775808 ≤ x) (h1 : x < 9223372036854775808) : wrap64 x = x := by unfold wrap64; omega
theorem wr64s (i : Nat) (h : (i : Int) < 9223372036854775807) : wrap64 ((i : Int) + 1) = ((i + 1 : Nat) : Int) := by rw [wr64 (by omega) (by omega)]; omega
theorem aG_ {α : Type} {g : Nat → Option α} {r : α} (h : Ev (fun k => g (k + 1)) r) : Ev g r := by
 obtain ⟨K, hK⟩ := h
 refine ⟨K + 1, fun k hk => ?_⟩
 obtain ⟨m, rfl⟩ : ∃ m, k = m + 1 := ⟨k - 1, by omega⟩
 exact hK m (by omega)
theorem Ev_t {α : Type} {c : Prop} [Decidable c] {f g : Nat → Option α} {r : α} (h : c) (k : Ev f r) : Ev (fun n => if c then f n else g n) r := by
 obtain ⟨K, hK⟩ := k
 exact ⟨K, fun n hn => (if_pos h).trans (hK n hn)⟩
theorem Ev_f {α : Type} {c : Prop} [Decidable c] {f g : Nat → Option α} {r : α} (h : ¬ c) (k : Ev g r) : Ev (fun n => if c then f n else g n) r := by
 obtain ⟨K, hK⟩ := k
 exact ⟨K, fun n hn => (if_neg h).trans (hK n hn)⟩
theorem Ev_b {α β : Type} {g : Nat → Option α} {f : Nat → α → Option β} {a : α} {r : β} (h : Ev g a) (k : Ev (fun n => f n a) r) : Ev (fun n => (g n).bind (fun x => f n x)) r := Ev.bind h k
theorem Ev_s {α β : Type} {a : α} {f : Nat → α → Option β} {r : β} (k : Ev (fun n => f n a) r) : Ev (fun n => (some a).bind (fun x => f n x)) r := k
theorem Ev_n {α : Type} {a r : α} (h : a = r) : Ev (fun _ => some a) r := ⟨0, fun _ _ => by rw [h]⟩
theorem Ev_c {α : Type} {o : Option α} {r : α} (h : o = some r) : Ev (fun _ => o) r := ⟨0, fun _ _ => h⟩
theorem Ev_at {α : Type} {g : Nat → Option α} {r r' : α} (h : Ev g r) (e : r = r') : Ev g r' := e ▸ h
theorem getD_in {α : Type} (l : List α) (z : α) (i : Nat) (h : i < l.length) : l.getD ((i : Int).toNat) z = l[i] := by simp [List.getD, h]
theorem getD_at {α : Type} (p q : List α) (z x : α) (i : Nat) (h : p.length = i) : (p ++ x :: q).getD ((i : Int).toNat) z = x := by subst h; simp [List.getD]
theorem set_at {α : Type} (p q : List α) (x y : α) (i : Nat) (h : p.length = i) : (p ++ x :: q).set ((i : Int).toNat) y = p ++ y :: q := by subst h; simp
theorem rdn_at (a b : List Int) (x : Int) (i : Nat) (h : a.length = i) : rd (a ++ x :: b) (i : Int) = x := by unfold rd; exact getD_at a b _ x i h
theorem eqInt64S_ev' (l : List Int) (hl : (l.length : Int) ≤ 1000000000000) : Ev (fun k => aA_.f k l l) true := by
 have go : ∀ (q p : List Int) (i : Nat), p.length = i → (i : Int) + q.length ≤ 1000000000000 → Ev (fun k => aA_.l0 k (p ++ q) (p ++ q) i) true := by
  intro q
  induction q with
  | nil =>
   intro p i q1 q2
   refine aG_ ?_
   simp only [aA_.l0]
   exact Ev_f (by simp; omega) (Ev_n rfl)
  | cons x q ih =>
   intro p i q1 q2
   simp only [List.length_cons] at q2
   refine aG_ ?_
   simp only [aA_.l0]
   refine Ev_t (by simp; omega) (Ev_t (by omega) (Ev_t (by simp; omega) (Ev_t True.intro ?_)))
   rw [wr64s i (by omega)]
   have := ih (p ++ [x]) (i + 1) (by simp; omega) (by omega)
   rw [List.append_assoc, List.singleton_append] at this
   exact this
 simp only [aA_.f]
 exact Ev_t True.intro (go l [] 0 rfl (by simpa using hl))
theorem mk_Int64 (l : List Int) (c : Int) (h0 : 0 ≤ c) (h1 : c ≤ 10000000000000000) (hl : (l.length : Int) ≤ 1000000000000) : ∃ l', l'.length = l.length ∧ Ev (fun k => av_.f k l c) (c + 1 * l.length, l') ∧ Ev (fun k => ap_.f k l' c) (c + 1 * l.length) := by
 have go : ∀ (q p : List Int) (i : Nat) (c : Int), p.length = i → 0 ≤ c → c + 1 * q.length ≤ 100000000000000000 → (i : Int) + q.length ≤ 1000000000000 → ∃ q', q'.length = q.length ∧ Ev (fun k => av_.l0 k (p ++ q) c i) (c + 1 * q.length, p ++ q') ∧ ∀ r : List Int, r.length = i → Ev (fun k => ap_.l0 k (r ++ q') c i) (c + 1 * q.length) := by
  intro q
  induction q with
  | nil =>
   intro p i c q1 q2 q3 q4
   refine ⟨[], rfl, aG_ ?_, fun r hr => aG_ ?_⟩
   ·simp only [av_.l0]
    exact Ev_f (by simp; omega) (Ev_n (by simp))
   ·simp only [ap_.l0]
    exact Ev_f (by simp; omega) (Ev_n (by simp))
  | cons x q ih =>
   intro p i c q1 q2 q3 q4
   simp only [List.length_cons] at q3 q4
   have e0 : wrap64 (c + 1) = c + 1 := (wr64 (by omega) (by omega)).trans (by omega)
   obtain ⟨q', hq, hm, hh⟩ := ih (p ++ [c]) (i + 1) (c + 1) (by simp; omega) (by omega) (by omega) (by omega)
   refine ⟨c :: q', by simp [hq], aG_ ?_, fun r hr => aG_ ?_⟩
   ·simp only [av_.l0, e0, set_at p q _ _ i q1]
    refine Ev_t (by simp; omega) (Ev_t (by omega) ?_)
    rw [wr64s i (by omega)]
    have hm' := hm
    rw [List.append_assoc, List.singleton_append, List.append_assoc, List.singleton_append] at hm'
    exact Ev_at hm' (by simp only [List.length_cons, Prod.mk.injEq, and_true]; omega)
   ·simp only [ap_.l0, e0, rdn_at r q' _ i hr]
    refine Ev_t (by simp; omega) (Ev_t (by omega) (Ev_t True.intro ?_))
    rw [wr64s i (by omega)]
    have hh' := hh (r ++ [c]) (by simp; omega)
    rw [List.append_assoc, List.singleton_append] at hh'
    exact Ev_at hh' (by simp only [List.length_cons]; omega)
 obtain ⟨l', e1, e2, e3⟩ := go l [] 0 c rfl h0 (by omega) (by simpa using hl)
 refine ⟨l', e1, ?_, ?_⟩
 ·simp only [av_.f]; exact e2
 ·simp only [ap_.f]; exact e3 [] rfl
theorem w64 {x : Int} (h0 : -9223372036854775808 ≤ x) (h1 : x < 9223372036854775808) : wrap64 x = x := by unfold wrap64; omega
abbrev Bs (l : List UInt8) : ByteArray := ⟨l.toArray⟩
theorem Bs_app (a b : List UInt8) : Bs a ++ Bs b = Bs (a ++ b) := by
 apply ByteArray.ext
 simp
theorem aU_ (l : List UInt8) : (Bs l).size = l.length := by simp [ByteArray.size]
theorem Bs_data (s : ByteArray) : Bs s.data.toList = s := by cases s; rfl
theorem Bs_list (l : List UInt8) : (Bs l).data.toList = l := by simp
def digs (u : Nat) : List Int := if h : u = 0 then [] else (48 + (u % 10 : Nat) : Int) :: digs (u / 10)
termination_by u
decreasing_by omega
theorem digs_zero : digs 0 = [] := by rw [digs, dif_pos rfl]
theorem digs_pos {u : Nat} (h : u ≠ 0) : digs u = (48 + (u % 10 : Nat) : Int) :: digs (u / 10) := by rw [digs, dif_neg h]
theorem digs_dec (u : Nat) (h : u ≠ 0) : (digs u).reverse.map (fun n => UInt8.ofNat n.toNat) = Go.Lib.decDigits u := by
 induction u using Nat.strongRecOn with
 | _ u ih =>
  rw [digs_pos h, Go.Lib.decDigits]
  by_cases h10 : u < 10
  rotate_left
  ·rw [dif_neg h10, List.reverse_cons, List.map_append, ih (u / 10) (by omega) (by omega)]
   simp only [List.map_cons, List.map_nil]
   rw [show (48 + ((u % 10 : Nat) : Int)).toNat = 48 + u % 10 by omega]
  rw [dif_pos h10, show u / 10 = 0 by omega, digs_zero, Nat.mod_eq_of_lt h10]
  simp only [List.reverse_cons, List.reverse_nil, List.nil_append, List.map_cons, List.map_nil]
  rw [show (48 + (u : Int)).toNat = 48 + u by omega]
def its (n : Int) : ByteArray := Bs (Go.Lib.itoa n)
theorem rev_ev (x3 : List Int) (hl : x3.length ≤ 1000) : ∀ (j : Nat) (x6 : List Int), j ≤ x3.length → x6.length + j ≤ 1000 → Ev (fun k => ak_.l1 k x3 x6 ((j : Int) - 1)) (strOfNums (x6 ++ (x3.take j).reverse))
 | 0, x6, _, _ => by
  refine aG_ ?_
  simp only [ak_.l1]
  exact Ev_f (by omega) (Ev_n (by simp))
 | j + 1, x6, h, h2 => by
  refine aG_ ?_
  simp only [ak_.l1]
  have e : ((j + 1 : Nat) : Int) - 1 = (j : Int) := by omega
  rw [e]
  refine Ev_t (by omega) (Ev_t (by omega) (Ev_t (by omega) (Ev_t (by omega) ?_)))
  rw [wr64 (x := (j : Int) - 1) (by omega) (by omega)]
  have hr : rd x3 (j : Int) = x3[j] := by unfold rd; exact getD_in x3 _ j (by omega)
  have := rev_ev x3 hl j (x6 ++ [rd x3 (j : Int)]) (by omega) (by simp; omega)
  refine Ev_at this ?_
  rw [hr, List.take_succ_eq_append_getElem (by omega), List.reverse_append]
  simp
theorem dec_loop (n0 : Int) : ∀ (d u : Nat) (x3 : List Int) (m : Int), u < 10 ^ d → d ≤ 19 → x3.length + d ≤ 30 → m = (if n0 < 0 then -(u : Int) else (u : Int)) → Ev (fun k => ak_.l0 k n0 x3 m) (strOfNums ((x3 ++ digs u ++ (if n0 < 0 then [45] else [])).reverse)) := by
 have fin : ∀ (x : List Int), x.length ≤ 100 → Ev (fun k => ak_.j1 k x) (strOfNums x.reverse) := fun x hx => by
  refine aG_ ?_
  simp only [ak_.j1]
  rw [wr64 (x := (x.length : Int) - 1) (by omega) (by omega)]
  have := rev_ev x (by omega) x.length [] (Nat.le_refl _) (by simp; omega)
  simpa using this
 have stop : ∀ (x3 : List Int), x3.length ≤ 50 → Ev (fun k => ak_.l0 k n0 x3 0) (strOfNums ((x3 ++ (if n0 < 0 then [45] else [])).reverse)) := fun x3 h => by
  refine aG_ ?_
  simp only [ak_.l0]
  refine Ev_t (by simp) ?_
  by_cases c : n0 < 0
  rotate_left
  ·rw [if_neg c, List.append_nil]
   exact Ev_f c (fin _ (by omega))
  rw [if_pos c]
  exact Ev_t c (Ev_t (by omega) (fin _ (by simp; omega)))
 intro d
 induction d with
 | zero =>
  intro u x3 m hu hd hl hm
  have : u = 0 := by simpa using hu
  subst this
  have hm0 : m = 0 := by rw [hm]; split <;> rfl
  subst hm0
  rw [digs_zero, List.append_nil]
  exact stop x3 (by omega)
 | succ d ih =>
  intro u x3 m hu hd hl hm
  by_cases h0 : u = 0
  rotate_left
  ·have hu2 : u / 10 < 10 ^ d := by rw [Nat.pow_succ] at hu; omega
   have hbig : u < 10000000000000000000 := Nat.lt_of_lt_of_le hu (Nat.le_trans (Nat.pow_le_pow_right (by decide) hd) (by decide))
   refine aG_ ?_
   simp only [ak_.l0]
   have step := ih (u / 10) (x3 ++ [48 + ((u % 10 : Nat) : Int)]) (if n0 < 0 then -((u / 10 : Nat) : Int) else ((u / 10 : Nat) : Int)) hu2 (by omega) (by simp; omega) rfl
   rw [List.append_assoc x3, List.singleton_append, ← digs_pos h0] at step
   by_cases c : n0 < 0
   rotate_left
   ·rw [if_neg c] at hm step
    subst hm
    have e1 : Int.tmod (u : Int) 10 = ((u % 10 : Nat) : Int) := by rw [Int.tmod_eq_emod_of_nonneg (by omega)]; omega
    have e2 : Int.tdiv (u : Int) 10 = ((u / 10 : Nat) : Int) := by rw [Int.tdiv_eq_ediv_of_nonneg (by omega)]; omega
    refine Ev_f (by omega) ?_
    rw [e1, e2, wr64 (x := ((u / 10 : Nat) : Int)) (by omega) (by omega)]
    refine Ev_f (by omega) (Ev_t (by omega) ?_)
    rw [wr64 (x := 48 + ((u % 10 : Nat) : Int)) (by omega) (by omega), show (48 + ((u % 10 : Nat) : Int)) % 256 = 48 + ((u % 10 : Nat) : Int) by omega]
    exact step
   rw [if_pos c] at hm step
   subst hm
   have e1 : Int.tmod (-(u : Int)) 10 = -((u % 10 : Nat) : Int) := by rw [Int.neg_tmod, Int.tmod_eq_emod_of_nonneg (by omega)]; omega
   have e2 : Int.tdiv (-(u : Int)) 10 = -((u / 10 : Nat) : Int) := by rw [Int.neg_tdiv, Int.tdiv_eq_ediv_of_nonneg (by omega)]; omega
   refine Ev_f (by omega) ?_
   rw [e1, e2, wr64 (x := -((u / 10 : Nat) : Int)) (by omega) (by omega)]
   by_cases cz : u % 10 = 0
   rotate_left
   ·refine Ev_t (by omega) (Ev_t (by omega) ?_)
    rw [wr64 (x := - -((u % 10 : Nat) : Int)) (by omega) (by omega), wr64 (x := 48 + - -((u % 10 : Nat) : Int)) (by omega) (by omega), show (48 + - -((u % 10 : Nat) : Int)) % 256 = 48 + ((u % 10 : Nat) : Int) by omega]
    exact step
   refine Ev_f (by omega) (Ev_t (by omega) ?_)
   rw [wr64 (x := 48 + -((u % 10 : Nat) : Int)) (by omega) (by omega), show (48 + -((u % 10 : Nat) : Int)) % 256 = 48 + ((u % 10 : Nat) : Int) by omega]
   exact step
  subst h0
  have hm0 : m = 0 := by rw [hm]; split <;> rfl
  subst hm0
  rw [digs_zero, List.append_nil]
  exact stop x3 (by omega)
theorem dec_ev (n : Int) (h0 : -9223372036854775808 ≤ n) (h1 : n ≤ 9223372036854775807) : Ev (fun k => ak_.f k n) (its n) := by
 simp only [ak_.f]
 by_cases c : n = 0
 rotate_left
 ·refine Ev_f c ?_
  have := dec_loop n 19 n.natAbs [] n (by rw [show (10 : Nat) ^ 19 = 10000000000000000000 by decide]; omega) (by omega) (by simp) (by split <;> omega)
  refine Ev_at this ?_
  rw [List.nil_append, List.reverse_append]
  have hd := digs_dec n.natAbs (by omega)
  unfold its Go.Lib.itoa strOfNums Bs
  by_cases cn : n < 0
  rotate_left
  ·rw [if_neg cn, if_neg cn, List.map_append, hd, show n.toNat = n.natAbs by omega]; rfl
  rw [if_pos cn, if_pos cn, List.map_append, hd]; rfl
 subst c
 refine Ev_t rfl (Ev_n ?_)
 unfold its Go.Lib.itoa
 rw [if_neg (by decide), Go.Lib.decDigits, dif_pos (by decide)]
 rfl
theorem Decimal_f (n : Int) (h0 : -9223372036854775808 ≤ n) (h1 : n ≤ 9223372036854775807) : bb_.f n = some (its n) := by
 unfold bb_.f aP_.f
 rw [if_pos ⟨rfl, h0, h1⟩]
 rfl
theorem bt_in (l : List UInt8) (i : Nat) (h : i < l.length) : bt (Bs l) (i : Int) = (l[i].toNat : Int) := by
 unfold bt
 have hs : (i : Int).toNat < (Bs l).size := by rw [aU_]; simpa using h
 rw [dif_pos hs]
 simp
 rfl
theorem u8_eq (c : UInt8) (n : Nat) (hn : n < 256) : ((c.toNat : Int) = (n : Int)) ↔ c = UInt8.ofNat n := by
 constructor
 ·intro h
  apply UInt8.toNat.inj
  rw [UInt8.toNat_ofNat_of_lt' hn]
  omega
 ·rintro rfl
  rw [UInt8.toNat_ofNat_of_lt' hn]
def spl (c : UInt8) : List UInt8 → List (List UInt8)
 | [] => [[]]
 | b :: l => if b = c then [] :: spl c l else match spl c l with
  | h :: t => (b :: h) :: t
  | [] => [[b]]
def glue (p : List UInt8) : List (List UInt8) → List (List UInt8)
 | h :: t => (p ++ h) :: t
 | [] => [p]
theorem spl_ne (c : UInt8) : ∀ l, spl c l ≠ []
 | [] => by simp [spl]
 | b :: l => by
  rw [spl]
  split
  ·simp
  ·split <;> simp
theorem spl_len (c : UInt8) : ∀ l, (spl c l).length ≤ l.length + 1
 | [] => by simp [spl]
 | b :: l => by
  have := spl_len c l
  rw [spl]
  split
  ·simp only [List.length_cons]; omega
  ·split
   ·rename_i h t e
    rw [e] at this
    simp only [List.length_cons] at this ⊢
    omega
   ·simp
theorem glue_nil (xs : List (List UInt8)) (h : xs ≠ []) : glue [] xs = xs := by
 cases xs with
 | nil => exact absurd rfl h
 | cons a t => rfl
theorem glue_cons (p : List UInt8) (b c : UInt8) (l : List UInt8) (h : b ≠ c) : glue p (spl c (b :: l)) = glue (p ++ [b]) (spl c l) := by
 rw [spl, if_neg h]
 cases hs : spl c l with
 | nil => exact absurd hs (spl_ne c l)
 | cons a t => simp [glue]
theorem splitK_eq (c : UInt8) : ∀ s : List UInt8, Go.Lib.splitK [c] 0 (Go.Lib.count s [c]) s = spl c s
 | [] => by
  rw [Go.Lib.count_miss (by simp [Go.Lib.index])]
  rfl
 | b :: l => by
  have ih := splitK_eq c l
  by_cases h : b = c
  rotate_left
  ·rw [Go.Lib.count_cons_ne b c l h]
   have hp : ([c] : List UInt8).isPrefixOf (b :: l) = false := by simp [List.isPrefixOf, Ne.symm h]
   have hix : Go.Lib.index (b :: l) [c] = if Go.Lib.index l [c] == -1 then -1 else Go.Lib.index l [c] + 1 := by rw [Go.Lib.index, hp]; simp
   rw [spl, if_neg h]
   by_cases hm : Go.Lib.index l [c] = -1
   rotate_left
   ·have hge := Go.Lib.index_ge l [c]
    obtain ⟨j, hj⟩ : ∃ j : Nat, Go.Lib.index l [c] = j := ⟨(Go.Lib.index l [c]).toNat, by omega⟩
    have hk : ∃ k, Go.Lib.count l [c] = k + 1 := ⟨Go.Lib.count (l.drop (j + 1)) [c], by rw [Go.Lib.count_hit (by simp) hj]; simp; omega⟩
    obtain ⟨k, hk⟩ := hk
    rw [hk] at ih ⊢
    have hne : ¬ (Go.Lib.index l [c] == -1) = true := fun e => hm (beq_iff_eq.1 e)
    have hix2 : Go.Lib.index (b :: l) [c] = ((j + 1 : Nat) : Int) := by rw [hix, if_neg hne, hj]; omega
    have hne2 : ¬ (Go.Lib.index (b :: l) [c] == -1) = true := fun e => by have := beq_iff_eq.1 e; omega
    rw [Go.Lib.splitK, if_neg hne, hj] at ih
    rw [Go.Lib.splitK, if_neg hne2, hix2, ← ih]
    simp
   rw [Go.Lib.count_miss hm] at ih ⊢
   have e : spl c l = [l] := ih.symm
   rw [e]
   rfl
  subst h
  rw [Go.Lib.count_cons_eq, Nat.add_comm, spl, if_pos rfl, ← ih]
  have hix : Go.Lib.index (b :: l) [b] = 0 := by rw [Go.Lib.index]; simp [List.isPrefixOf]
  rw [Go.Lib.splitK, hix]
  rfl
theorem split_f (s : ByteArray) (hs : (s.size : Int) ≤ 1048576) (c : UInt8) : strings_Split.f s (Bs [c]) = some ((spl c s.data.toList).map Bs) := by
 unfold strings_Split.f
 rw [if_pos ⟨by omega, by rw [aU_]; simp⟩]
 congr 1
 have h := Go.Lib.splitB_data (Bs [c]) 0 (Go.Lib.countB s (Bs [c])) s
 have e : (Bs [c]).data.toList = [c] := Bs_list _
 unfold Go.Lib.countB at h
 rw [e, splitK_eq] at h
 rw [← h, List.map_map]
 unfold Go.Lib.countB
 rw [e]
 conv => lhs; rw [← List.map_id (Go.Lib.splitB (Bs [c]) 0 (Go.Lib.count s.data.toList [c]) s)]
 apply List.map_congr_left
 intro x _
 exact (Bs_data x).symm
theorem split_spec (L : List UInt8) (hL : (L.length : Int) ≤ 1048576) (c : UInt8) : Ev (fun k => aw_.f k (Bs L) (c.toNat : Int)) ((spl c L).map Bs) := by
 have ex : ∀ (a p q : List UInt8) (n m : Nat), L = a ++ p ++ q → a.length = n → n + p.length = m → (Bs L).extract n m = Bs p := fun a p q n m h1 h2 h3 => by
  rw [← Bs_data ((Bs L).extract n m), Go.Lib.extract_data, Bs_list, h1]
  congr 1
  subst h2 h3
  simp
 have go : ∀ (q p a : List UInt8) (x5 : List ByteArray), L = a ++ p ++ q → x5.length ≤ a.length → Ev (fun k => aw_.l0 k (Bs L) (c.toNat : Int) x5 (a.length : Int) ((a.length + p.length : Nat) : Int)) (x5 ++ (glue p (spl c q)).map Bs) := by
  intro q
  induction q with
  | nil =>
   intro p a x5 h h5
   have hl : L.length = a.length + p.length := by rw [h]; simp
   refine aG_ ?_
   simp only [aw_.l0]
   rw [aU_]
   refine Ev_f (by omega) (Ev_t (by omega) (Ev_t (by omega) (Ev_t (by omega) (Ev_n ?_))))
   rw [Int.toNat_natCast, ex a p [] a.length L.length h rfl hl.symm]
   simp [spl, glue]
  | cons b q ih =>
   intro p a x5 h h5
   have hl : L.length = a.length + p.length + (q.length + 1) := by rw [h]; simp; omega
   have hb : bt (Bs L) ((a.length + p.length : Nat) : Int) = (b.toNat : Int) := by
    rw [bt_in L (a.length + p.length) (by omega)]
    congr 2
    simp [h]
   refine aG_ ?_
   simp only [aw_.l0]
   rw [hb, aU_]
   refine Ev_t (by omega) (Ev_t (by omega) ?_)
   by_cases hc : b = c
   rotate_left
   ·refine Ev_f (fun e => hc ?_) ?_
    ·apply UInt8.toNat.inj
     omega
    ·rw [wr64s (a.length + p.length) (by omega), glue_cons p b c q hc]
     have := ih (p ++ [b]) a x5 (by rw [h]; simp) h5
     simpa [Nat.add_assoc] using this
   subst hc
   refine Ev_t rfl (Ev_t (by omega) (Ev_t (by omega) (Ev_t (by omega) (Ev_t (by omega) ?_))))
   rw [Int.toNat_natCast, Int.toNat_natCast, ex a p (b :: q) a.length (a.length + p.length) h rfl rfl, wr64s (a.length + p.length) (by omega)]
   have := ih [] (a ++ p ++ [b]) (x5 ++ [Bs p]) (by rw [h]; simp) (by simp; omega)
   rw [glue_nil _ (spl_ne b q)] at this
   rw [spl, if_pos rfl]
   simpa [glue, Nat.add_assoc] using this
 have := go L [] [] [] rfl (by simp)
 rw [glue_nil _ (spl_ne c L)] at this
 simp only [aw_.f]
 simpa using this
theorem rdO_in (l : List ByteArray) (i : Nat) (h : i < l.length) : rdOf ByteArray.empty l (i : Int) = l[i] := by unfold rdOf; exact getD_in l _ i h
theorem toList_len (x : ByteArray) : x.toList.length = x.size := by
 rw [Go.ByteArray.toList_eq x, Array.length_toList]; rfl
theorem name_round (k : Nat) (x : ByteArray) (i : Int) : al_.l0 k x i = ae_.l0 k x i := by
 induction k generalizing i with
 | zero => rfl
 | succ k ih =>
  simp only [al_.l0, ae_.l0, ih, aT_.f, be_.f]
  by_cases h1 : i < (x.size : Int)
  rotate_left
  ·rw [if_neg h1, if_neg h1]
  rw [if_pos h1, if_pos h1]
  by_cases h2 : 0 ≤ i
  rotate_left
  ·rw [if_neg h2, if_neg h2]
  rw [if_pos h2, if_pos h2]
  generalize bt x i = c
  by_cases h3 : c < 97
  rotate_left
  ·rw [if_neg h3, if_pos (show c ≥ 97 by omega)]
   by_cases h4 : c > 122
   rotate_left
   ·rw [if_neg h4]; simp [show c ≤ 122 by omega]
   simp [h4, show ¬ c < 48 by omega, show c > 57 by omega, show ¬ c ≤ 122 by omega, show ¬ c ≤ 57 by omega]
  rw [if_pos h3, if_neg (by omega)]
  by_cases h4 : c < 48
  rotate_left
  ·rw [if_neg h4, if_pos (by omega)]
   by_cases h5 : c > 57
   rotate_left
   ·rw [if_neg h5]; simp [show c ≤ 57 by omega]
   rw [if_pos h5]; simp [show ¬ c ≤ 57 by omega]
  rw [if_pos h4, if_neg (by omega)]; simp
theorem name_same (k : Nat) (x : ByteArray) : al_.f k x = ae_.f k x := by
 have hj : ∀ b, al_.j0 k x b = ae_.j0 k x b := by
  intro b
  cases k with
  | zero => rfl
  | succ k => simp only [al_.j0, ae_.j0, name_round]
 unfold al_.f ae_.f aT_.f
 simp only [hj]
 by_cases h0 : x.toList = []
 rotate_left
 ·have : x.size ≠ 0 := by
   intro e; apply h0; apply List.eq_nil_of_length_eq_zero; rw [toList_len, e]
  rw [if_neg h0, if_neg (show ¬ (x.size : Int) < 1 by omega)]
  by_cases h1 : (x.size : Int) > 10
  rotate_left
  ·rw [if_neg h1, if_neg h1, if_pos (show 0 < (x.size : Int) by omega), if_pos (show 0 < (x.size : Int) by omega)]
   generalize bt x 0 = c
   by_cases h3 : c < 97
   rotate_left
   ·rw [if_neg h3, if_pos (show c ≥ 97 by omega)]
    simp only [Option.bind_some]
    congr 1
    by_cases h4 : c > 122
    rotate_left
    ·simp [h4, show c ≤ 122 by omega]
    simp [h4, show ¬ c ≤ 122 by omega]
   rw [if_pos h3, if_neg (show ¬ c ≥ 97 by omega)]; rfl
  rw [if_pos h1, if_pos h1]
 have : x.size = 0 := by rw [← toList_len, h0]; rfl
 rw [if_pos h0, if_pos (by omega)]
theorem name_ev (x : ByteArray) : ∃ b, ∀ k, 12 < k → ae_.f k x = some b := by
 have go : ∀ (d : Nat) (i : Int), 0 ≤ i → i + d = x.size → (x.size : Int) ≤ 10 → ∃ b, ∀ k, d < k → ae_.l0 k x i = some b := by
  intro d
  induction d with
  | zero =>
   intro i h0 h1 _
   refine ⟨true, fun k hk => ?_⟩
   obtain ⟨k, rfl⟩ : ∃ m, k = m + 1 := ⟨k - 1, by omega⟩
   simp only [ae_.l0]
   rw [if_neg (by omega)]
  | succ d ih =>
   intro i h0 h1 h2
   obtain ⟨b, hb⟩ := ih (i + 1) (by omega) (by omega) h2
   by_cases h3 : bt x i < 97
   rotate_left
   ·by_cases h4 : bt x i > 122
    rotate_left
    ·refine ⟨b, fun k hk => ?_⟩
     obtain ⟨k, rfl⟩ : ∃ m, k = m + 1 := ⟨k - 1, by omega⟩
     simp only [ae_.l0]
     rw [if_pos (by omega), if_pos h0, if_neg h3, if_neg h4, w64 (by omega) (by omega), hb k (by omega)]
    refine ⟨false, fun k hk => ?_⟩
    obtain ⟨k, rfl⟩ : ∃ m, k = m + 1 := ⟨k - 1, by omega⟩
    simp only [ae_.l0]
    rw [if_pos (by omega), if_pos h0, if_neg h3, if_pos h4, if_neg (by omega), if_pos (by omega)]
   by_cases h4 : bt x i < 48
   rotate_left
   ·by_cases h5 : bt x i > 57
    rotate_left
    ·refine ⟨b, fun k hk => ?_⟩
     obtain ⟨k, rfl⟩ : ∃ m, k = m + 1 := ⟨k - 1, by omega⟩
     simp only [ae_.l0]
     rw [if_pos (by omega), if_pos h0, if_pos h3, if_neg h4, if_neg h5, w64 (by omega) (by omega), hb k (by omega)]
    refine ⟨false, fun k hk => ?_⟩
    obtain ⟨k, rfl⟩ : ∃ m, k = m + 1 := ⟨k - 1, by omega⟩
    simp only [ae_.l0]
    rw [if_pos (by omega), if_pos h0, if_pos h3, if_neg h4, if_pos h5]
   refine ⟨false, fun k hk => ?_⟩
   obtain ⟨k, rfl⟩ : ∃ m, k = m + 1 := ⟨k - 1, by omega⟩
   simp only [ae_.l0]
   rw [if_pos (by omega), if_pos h0, if_pos h3, if_pos h4]
 have hj : ∀ (b : Bool), (b = false → (x.size : Int) ≤ 10) → ∃ c, ∀ k, 12 < k → ae_.j0 k x b = some c := by
  intro b hs
  cases b with
  | true =>
   refine ⟨false, fun k hk => ?_⟩
   obtain ⟨k, rfl⟩ : ∃ m, k = m + 1 := ⟨k - 1, by omega⟩
   simp only [ae_.j0, if_true]
  | false =>
   obtain ⟨c, hc⟩ := go x.size 0 (by omega) (by omega) (hs rfl)
   have := hs rfl
   refine ⟨c, fun k hk => ?_⟩
   obtain ⟨k, rfl⟩ : ∃ m, k = m + 1 := ⟨k - 1, by omega⟩
   simp only [ae_.j0]
   rw [if_neg (by decide), hc k (by omega)]
 unfold ae_.f
 by_cases h1 : (x.size : Int) < 1
 rotate_left
 ·simp only [if_neg h1]
  by_cases h2 : (x.size : Int) > 10
  rotate_left
  ·simp only [if_neg h2, if_pos (show 0 < (x.size : Int) by omega)]
   by_cases h3 : bt x 0 < 97
   rotate_left
   ·simp only [if_neg h3]; exact hj _ (fun _ => by omega)
   simp only [if_pos h3]; exact hj true (by intro h; cases h)
  simp only [if_pos h2]; exact hj true (by intro h; cases h)
 simp only [if_pos h1]; exact hj true (by intro h; cases h)
theorem bits16 (op : BinOp) (hop : op = .xor ∨ op = .and) (a b : Int) (ha : 0 ≤ a) (ha2 : a < 131072) (hb : 0 ≤ b) (hb2 : b < 65536) (h : op = .xor → a < 65536) : 0 ≤ Go.bits op .i64 a b ∧ Go.bits op .i64 a b < 65536 := by
 obtain ⟨x, rfl⟩ := Int.eq_ofNat_of_zero_le ha
 obtain ⟨y, rfl⟩ := Int.eq_ofNat_of_zero_le hb
 have hx : x % 2 ^ IntKind.i64.bits = x := Nat.mod_eq_of_lt (by show x < 2 ^ 64; omega)
 have hy : y % 2 ^ IntKind.i64.bits = y := Nat.mod_eq_of_lt (by show y < 2 ^ 64; omega)
 have key : ∀ n : Nat, n < 65536 → 0 ≤ IntKind.i64.wrap (n : Int) ∧ IntKind.i64.wrap (n : Int) < 65536 := fun n hn => by
  rw [IntKind.wrap_i64]
  omega
 rcases hop with rfl | rfl
 ·have hx2 : x < 2 ^ 16 := by have := h rfl; omega
  have := Nat.xor_lt_two_pow (n := 16) hx2 (show y < 2 ^ 16 by omega)
  have := key _ this
  simpa only [bits, BitVec.ofInt_natCast, BitVec.toNat_xor, BitVec.toNat_ofNat, hx, hy] using this
 ·have := Nat.and_lt_two_pow x (show y < 2 ^ 16 by omega)
  have := key _ this
  simpa only [bits, BitVec.ofInt_natCast, BitVec.toNat_and, BitVec.toNat_ofNat, hx, hy] using this
theorem bt_256 (x : ByteArray) (i : Int) : 0 ≤ bt x i ∧ bt x i < 256 := by
 unfold bt
 split
 ·rename_i h
  have := UInt8.toNat_lt (x[i.toNat]'h)
  omega
 ·omega
theorem crc_ev (x : ByteArray) (hx : (x.size : Int) ≤ 1048576) : ∃ r : Int, 0 ≤ r ∧ r ≤ 65535 ∧ Ev (fun k => as_.f k x 65535) r ∧ Ev (fun k => az_.f k x 65535) r := by
 have inner : ∀ (i : Nat), (i : Int) + 1 ≤ 1048577 → (∀ c : Int, 0 ≤ c → c ≤ 65535 → ∃ r : Int, 0 ≤ r ∧ r ≤ 65535 ∧ Ev (fun k => as_.l0 k x c ((i + 1 : Nat) : Int)) r ∧ Ev (fun k => az_.l0 k x c ((i + 1 : Nat) : Int)) r) → ∀ (d j : Nat), j + d = 8 → ∀ c : Int, 0 ≤ c → c ≤ 65535 → ∃ r : Int, 0 ≤ r ∧ r ≤ 65535 ∧ Ev (fun k => as_.l1 k x c i j) r ∧ Ev (fun k => az_.l1 k x c i j) r := by
  intro i hi nx d
  induction d with
  | zero =>
   intro j hj c c0 c1
   obtain ⟨r, r0, r1, r2, r3⟩ := nx c c0 c1
   refine ⟨r, r0, r1, aG_ ?_, aG_ ?_⟩
   ·simp only [as_.l1]; rw [wr64s i (by omega)]; exact Ev_f (by omega) r2
   ·simp only [az_.l1]; rw [wr64s i (by omega)]; exact Ev_f (by omega) r3
  | succ d ih =>
   intro j hj c c0 c1
   have e2 : wrap64 (c * 2) = c * 2 := wr64 (by omega) (by omega)
   by_cases h : c * 2 > 65535
   rotate_left
   ·obtain ⟨r, r0, r1, r2, r3⟩ := ih (j + 1) (by omega) (c * 2) (by omega) (by omega)
    refine ⟨r, r0, r1, aG_ ?_, aG_ ?_⟩
    ·simp only [as_.l1]; rw [e2, wr64s j (by omega)]; exact Ev_t (by omega) (Ev_f h r2)
    ·simp only [az_.l1]; rw [e2, wr64s j (by omega)]; exact Ev_t (by omega) (Ev_f h r3)
   have b1 := bits16 .and (.inr rfl) (c * 2) 65535 (by omega) (by omega) (by omega) (by omega) (fun q => by cases q)
   have b2 := bits16 .xor (.inl rfl) (Go.bits .and .i64 (c * 2) 65535) 4129 b1.1 (by omega) (by omega) (by omega) (fun _ => b1.2)
   obtain ⟨r, r0, r1, r2, r3⟩ := ih (j + 1) (by omega) _ b2.1 (by omega)
   refine ⟨r, r0, r1, aG_ ?_, aG_ ?_⟩
   ·simp only [as_.l1]; rw [e2, wr64s j (by omega)]; exact Ev_t (by omega) (Ev_t h r2)
   ·simp only [az_.l1]; rw [e2, wr64s j (by omega)]; exact Ev_t (by omega) (Ev_t h r3)
 have outer : ∀ (d i : Nat), i + d = x.size → ∀ c : Int, 0 ≤ c → c ≤ 65535 → ∃ r : Int, 0 ≤ r ∧ r ≤ 65535 ∧ Ev (fun k => as_.l0 k x c i) r ∧ Ev (fun k => az_.l0 k x c i) r := by
  intro d
  induction d with
  | zero =>
   intro i hi c c0 c1
   refine ⟨c, c0, c1, aG_ ?_, aG_ ?_⟩
   ·simp only [as_.l0]; exact Ev_f (by omega) (Ev_n rfl)
   ·simp only [az_.l0]; exact Ev_f (by omega) (Ev_n rfl)
  | succ d ih =>
   intro i hi c c0 c1
   have hb := bt_256 x i
   have e1 : wrap64 (bt x i) = bt x i := wr64 (by omega) (by omega)
   have e2 : wrap64 (bt x i * 256) = bt x i * 256 := wr64 (by omega) (by omega)
   have b2 := bits16 .xor (.inl rfl) c (bt x i * 256) c0 (by omega) (by omega) (by omega) (fun _ => by omega)
   obtain ⟨r, r0, r1, r2, r3⟩ := inner i (by omega) (fun c q0 q1 => ih (i + 1) (by omega) c q0 q1) 8 0 (by omega) _ b2.1 (by omega)
   refine ⟨r, r0, r1, aG_ ?_, aG_ ?_⟩
   ·simp only [as_.l0]; rw [e1, e2]; exact Ev_t (by omega) (Ev_t (by omega) r2)
   ·simp only [az_.l0]; rw [e1, e2]; exact Ev_t (by omega) (Ev_t (by omega) r3)
 obtain ⟨r, r0, r1, r2, r3⟩ := outer x.size 0 (by omega) 65535 (by omega) (by omega)
 refine ⟨r, r0, r1, ?_, ?_⟩
 ·simp only [as_.f]; exact r2
 ·simp only [az_.f]
  have : bn_.f 65535 0 65535 = some true := by decide
  exact Ev_b (Ev_c this) (Ev_t rfl r3)
def five (n : Int) : ByteArray := Bs (List.replicate (5 - (Go.Lib.itoa n).length) 48 ++ Go.Lib.itoa n)
theorem itoa5 (n : Int) (h0 : 0 ≤ n) (h1 : n ≤ 65535) : (Go.Lib.itoa n).length ≤ 5 := by
 obtain ⟨u, rfl⟩ := Int.eq_ofNat_of_zero_le h0
 have : Go.Lib.itoa (u : Int) = Go.Lib.decDigits u := Go.Lib.itoa_nonneg u
 rw [this]
 have key : ∀ (k u : Nat), u < 10 ^ k → 1 ≤ k → (Go.Lib.decDigits u).length ≤ k := by
  intro k
  induction k with
  | zero => intro u h hk; omega
  | succ k ih =>
   intro u h hk
   rw [Go.Lib.decDigits]
   split
   ·simp
   ·rename_i hu
    have h2 : 1 ≤ k := by
     rcases Nat.eq_zero_or_pos k with rfl | h
     ·simp at h; omega
     ·exact h
    have := ih (u / 10) (by rw [Nat.pow_succ] at h; omega) h2
    simp
    omega
 exact key 5 u (by omega) (by omega)
theorem five_spec (n : Int) (h0 : 0 ≤ n) (h1 : n ≤ 65535) : Ev (fun k => aD_.f k n) (five n) := by
 have h5 := itoa5 n h0 h1
 have go : ∀ (d m : Nat), m + d = 5 - (Go.Lib.itoa n).length → Ev (fun k => aD_.l0 k (Bs (List.replicate m 48 ++ Go.Lib.itoa n))) (five n) := by
  intro d
  induction d with
  | zero =>
   intro m h
   refine aG_ ?_
   simp only [aD_.l0]
   refine Ev_f ?_ (Ev_n (by unfold five; rw [show m = 5 - (Go.Lib.itoa n).length by omega]))
   rw [aU_]
   simp
   omega
  | succ d ih =>
   intro m h
   refine aG_ ?_
   simp only [aD_.l0]
   have hs : (Bs (List.replicate m 48 ++ Go.Lib.itoa n)).size = m + (Go.Lib.itoa n).length := by rw [aU_]; simp
   have e : (⟨#[48]⟩ : ByteArray) ++ Bs (List.replicate m 48 ++ Go.Lib.itoa n) = Bs (List.replicate (m + 1) 48 ++ Go.Lib.itoa n) := by
    have : (⟨#[48]⟩ : ByteArray) = Bs [48] := rfl
    rw [this, Bs_app, List.replicate_succ]
    rfl
   rw [hs, e]
   exact Ev_t (by omega) (Ev_t (by omega) (ih (m + 1) (by omega)))
 simp only [aD_.f]
 refine Ev_b (dec_ev n (by omega) (by omega)) ?_
 have := go _ 0 (Nat.zero_add _)
 simpa [its] using this
theorem five_impl (x : ByteArray) (n : Int) (h0 : 0 ≤ n) (h1 : n ≤ 65535) (h : Ev (fun k => az_.f k x 65535) n) : Ev (fun k => aQ_.f k x) (five n) := by
 have h5 := itoa5 n h0 h1
 have hs : (its n).size = (Go.Lib.itoa n).length := by unfold its; rw [aU_]
 have hz : (⟨#[48, 48, 48, 48, 48]⟩ : ByteArray) = Bs [48, 48, 48, 48, 48] := rfl
 simp only [aQ_.f]
 refine Ev_b h (Ev_b (Ev_c (Decimal_f n (by omega) (by omega))) ?_)
 rw [hs, Int.toNat_natCast]
 have e : (⟨#[48, 48, 48, 48, 48]⟩ : ByteArray).extract (Go.Lib.itoa n).length (⟨#[48, 48, 48, 48, 48]⟩ : ByteArray).size = Bs (List.replicate (5 - (Go.Lib.itoa n).length) 48) := by
  rw [hz, ← Bs_data ((Bs [48, 48, 48, 48, 48]).extract _ _), Go.Lib.extract_data, Bs_list, aU_]
  congr 1
  generalize (Go.Lib.itoa n).length = m at h5
  have : m = 0 ∨ m = 1 ∨ m = 2 ∨ m = 3 ∨ m = 4 ∨ m = 5 := by omega
  rcases this with rfl | rfl | rfl | rfl | rfl | rfl <;> rfl
 rw [e]
 refine Ev_t (by omega) (Ev_t (by omega) (Ev_t ?_ (Ev_n ?_)))
 ·rw [aU_]; simp; omega
 ·unfold five its; rw [Bs_app]
def noNl : List UInt8 → Bool
 | [] => true
 | x :: l => if x = 10 then false else noNl l
theorem noNl_index : ∀ l : List UInt8, (!decide (0 ≤ Go.Lib.indexByte l 10)) = noNl l
 | [] => by decide
 | x :: l => by
  have ih := noNl_index l
  have hg := Go.Lib.indexByte_ge l 10
  unfold noNl Go.Lib.indexByte
  by_cases h : x = 10
  rotate_left
  ·have hb : (x == 10) = false := by simpa using h
   rw [if_neg (by rw [hb]; decide), if_neg h, ← ih]
   by_cases h2 : Go.Lib.indexByte l 10 = -1
   rotate_left
   ·have hb2 : (Go.Lib.indexByte l 10 == -1) = false := by simpa using h2
    rw [if_neg (by rw [hb2]; decide)]
    simp [show 0 ≤ Go.Lib.indexByte l 10 by omega, show 0 ≤ Go.Lib.indexByte l 10 + 1 by omega]
   simp [h2]
  simp [h]
theorem bt_get (s : ByteArray) (i : Nat) (h : i < s.data.toList.length) : (bt s (i : Int) = 10) = (s.data.toList[i] = 10) := by
 have hs : i < s.size := by rw [Array.length_toList] at h; exact h
 unfold bt
 rw [dif_pos (show (i : Int).toNat < s.size from hs)]
 have e : s[(i : Int).toNat]'hs = s.data.toList[i] := by simp; rfl
 rw [e]
 apply propext
 constructor
 ·intro he; apply UInt8.toNat_inj.1; have : (s.data.toList[i].toNat : Int) = ((10 : UInt8).toNat : Int) := he; exact Int.ofNat_inj.1 this
 ·intro he; rw [he]; rfl
theorem oneB_loop (x : S43) (hx : (x.f2.size : Int) ≤ 1048576) (na nb : Bool) (ha : ∀ k, 12 < k → ae_.f k x.f0 = some na) (hb : ∀ k, 12 < k → ae_.f k x.f1 = some nb) : ∀ (d i : Nat), i + d = x.f2.size → ∀ k, d + 20 < k → aB_.l0 k [x] i = some (noNl (x.f2.data.toList.drop i) && (na && (nb && decide ((x.f2.size : Int) ≤ 400)))) := by
 have hrd : aV_ [x] 0 = x := rfl
 have hsz : x.f2.data.toList.length = x.f2.size := by rw [Array.length_toList]; rfl
 have g0 : (0 < (([x] : List S43).length : Int)) = True := eq_true (by simp)
 intro d
 induction d with
 | zero =>
  intro i h k hk
  obtain ⟨k, rfl⟩ : ∃ m, k = m + 1 := ⟨k - 1, by omega⟩
  have g1 : ((i : Int) < (x.f2.size : Int)) = False := eq_false (by omega)
  simp only [aB_.l0, hrd, g0, g1, if_true, if_false, name_same, ha k (by omega), hb k (by omega), Option.bind_some]
  rw [List.drop_of_length_le (by omega)]
  cases na <;> cases nb <;> simp [noNl]
 | succ d ih =>
  intro i h k hk
  obtain ⟨k, rfl⟩ : ∃ m, k = m + 1 := ⟨k - 1, by omega⟩
  have g1 : ((i : Int) < (x.f2.size : Int)) = True := eq_true (by omega)
  have g2 : (0 ≤ (i : Int)) = True := eq_true (by omega)
  have g4 : wrap64 ((i : Int) + 1) = ((i + 1 : Nat) : Int) := by rw [w64 (by omega) (by omega)]; omega
  have hi : i < x.f2.data.toList.length := by omega
  simp only [aB_.l0, hrd, g0, g1, g2, g4, if_true]
  rw [List.drop_eq_getElem_cons hi]
  unfold noNl
  by_cases hc : x.f2.data.toList[i] = 10
  rotate_left
  ·rw [if_neg (by rw [bt_get x.f2 i hi]; exact hc), if_neg hc, ih (i + 1) (by omega) k (by omega)]
  rw [if_pos ((bt_get x.f2 i hi).symm ▸ hc), if_pos hc]; rfl
theorem validB_ev (x : S43) (hx : (x.f2.size : Int) ≤ 1048576) : ∃ b, ∀ k, 2000000 < k → aB_.f k [x] = some b ∧ aH_.f k x.f0 x.f1 x.f2 = some b := by
 obtain ⟨na, ha⟩ := name_ev x.f0
 obtain ⟨nb, hb⟩ := name_ev x.f1
 refine ⟨noNl x.f2.data.toList && (na && (nb && decide ((x.f2.size : Int) ≤ 400))), fun k hk => ⟨?_, ?_⟩⟩
 ·have := oneB_loop x hx na nb ha hb x.f2.size 0 (by omega) k (by omega)
  unfold aB_.f
  simpa using this
 ·unfold aH_.f strings_Contains.f
  rw [ha k (by omega), hb k (by omega)]
  have hn := noNl_index x.f2.data.toList
  cases na
  ·simp
  ·cases nb
   ·simp
   ·by_cases h4 : (x.f2.size : Int) ≤ 400
    ·simp only [Option.bind_some, if_true, h4]
     rw [hn]; simp
    ·simp [h4]
theorem index_miss (c : UInt8) : ∀ Y : List UInt8, c ∉ Y → Go.Lib.index Y [c] = -1
 | [], _ => by simp [Go.Lib.index]
 | b :: Y, h => by
  have hb : ¬ c = b := fun e => h (by simp [e])
  have ih := index_miss c Y (fun q => h (by simp [q]))
  have hp : ([c] : List UInt8).isPrefixOf (b :: Y) = false := by simp [List.isPrefixOf, hb]
  rw [Go.Lib.index, hp, ih]
  simp
theorem index_hit (c : UInt8) : ∀ A B : List UInt8, c ∉ A → Go.Lib.index (A ++ c :: B) [c] = (A.length : Int)
 | [], B, _ => by rw [List.nil_append, Go.Lib.index]; simp [List.isPrefixOf]
 | b :: A, B, h => by
  have hb : ¬ c = b := fun e => h (by simp [e])
  have ih := index_hit c A B (fun q => h (by simp [q]))
  have hp : ([c] : List UInt8).isPrefixOf (b :: (A ++ c :: B)) = false := by simp [List.isPrefixOf, hb]
  rw [List.cons_append, Go.Lib.index, hp, ih]
  simp
theorem splitK_miss (c : UInt8) (Y : List UInt8) (h : c ∉ Y) (k : Nat) : Go.Lib.splitK [c] 0 k Y = [Y] := by
 cases k with
 | zero => rfl
 | succ k =>
  rw [Go.Lib.splitK, index_miss c Y h]; try rfl
theorem splitK_hit (c : UInt8) (A B : List UInt8) (h : c ∉ A) (k : Nat) : Go.Lib.splitK [c] 0 (k + 1) (A ++ c :: B) = A :: Go.Lib.splitK [c] 0 k B := by
 have hne : ¬ (((A.length : Nat) : Int) == -1) = true := fun e => by have := beq_iff_eq.1 e; omega
 rw [Go.Lib.splitK, index_hit c A B h, if_neg hne]
 simp
theorem splitN_f (Y : List UInt8) (hY : Y.length ≤ 1048576) (c : UInt8) : strings_SplitN.f (Bs Y) (Bs [c]) 3 = some ((Go.Lib.splitK [c] 0 (min 3 (Y.length + 1) - 1) Y).map Bs) := by
 unfold strings_SplitN.f
 rw [if_pos ⟨by rw [aU_]; omega, by rw [aU_]; simp, by omega, by omega⟩]
 congr 1
 have h := Go.Lib.splitB_data (Bs [c]) 0 (min 3 (Y.length + 1) - 1) (Bs Y)
 rw [Bs_list, Bs_list] at h
 rw [← h, List.map_map, aU_]
 conv => lhs; rw [← List.map_id (Go.Lib.splitB _ _ _ _)]
 apply List.map_congr_left
 intro x _
 exact (Bs_data x).symm
theorem first_of (c : UInt8) : ∀ Y : List UInt8, c ∉ Y ∨ ∃ A B, Y = A ++ c :: B ∧ c ∉ A
 | [] => .inl (by simp)
 | b :: Y => by
  by_cases h : c = b
  rotate_left
  ·rcases first_of c Y with q | ⟨A, B, e, q⟩
   ·exact .inl (by simp [h, q])
   ·exact .inr ⟨b :: A, B, by simp [e], by simp [h, q]⟩
  exact .inr ⟨[], Y, by simp [h], by simp⟩
abbrev P4 := ByteArray × ByteArray × ByteArray × Int
theorem bt_ne (Y : List UInt8) (i : Nat) (h : i < Y.length) (hn : Y[i] ≠ 32) : ¬ bt (Bs Y) (i : Int) = 32 := by
 rw [bt_in Y i h]
 intro e
 exact hn ((u8_eq Y[i] 32 (by omega)).1 e)
theorem bt_sp (Y : List UInt8) (i : Nat) (h : i < Y.length) (hn : Y[i] = 32) : bt (Bs Y) (i : Int) = 32 := by
 rw [bt_in Y i h, hn]
 rfl
theorem seek0 (Y : List UInt8) (hY : Y.length ≤ 1048576) (r : P4) : ∀ (A P R : List UInt8), Y = P ++ A ++ R → (32 : UInt8) ∉ A → (R = [] ∨ ∃ B, R = 32 :: B) → Ev (fun k => aa_.j2 k (Bs Y) ((P.length + A.length : Nat) : Int)) r → Ev (fun k => aa_.l0 k (Bs Y) (P.length : Int)) r := by
 intro A
 induction A with
 | nil =>
  intro P R h hA hR hj
  refine aG_ ?_
  simp only [aa_.l0]
  rw [aU_]
  have hl : Y.length = P.length + R.length := by rw [h]; simp
  rcases hR with rfl | ⟨B, rfl⟩
  ·exact Ev_f (by simp at hl; omega) (by simpa using hj)
  ·simp only [List.length_cons] at hl
   refine Ev_t (by omega) (Ev_t (by omega) (Ev_t (bt_sp Y P.length (by omega) (by simp [h])) (by simpa using hj)))
 | cons b A ih =>
  intro P R h hA hR hj
  refine aG_ ?_
  simp only [aa_.l0]
  rw [aU_]
  have hl : Y.length = P.length + (A.length + 1) + R.length := by rw [h]; simp; omega
  refine Ev_t (by omega) (Ev_t (by omega) (Ev_f (bt_ne Y P.length (by omega) (by simp [h]; exact fun e => hA (by simp [e]))) ?_))
  rw [wr64s _ (by omega)]
  have := ih (P ++ [b]) R (by rw [h]; simp) (fun q => hA (by simp [q])) hR (by
   have e : (P ++ [b]).length + A.length = P.length + (b :: A).length := by simp; omega
   rw [e]; exact hj)
  simpa using this
theorem seek1 (Y : List UInt8) (hY : Y.length ≤ 1048576) (x5 : Int) (r : P4) : ∀ (A P R : List UInt8), Y = P ++ A ++ R → (32 : UInt8) ∉ A → (R = [] ∨ ∃ B, R = 32 :: B) → Ev (fun k => aa_.j4 k (Bs Y) x5 ((P.length + A.length : Nat) : Int)) r → Ev (fun k => aa_.l1 k (Bs Y) x5 (P.length : Int)) r := by
 intro A
 induction A with
 | nil =>
  intro P R h hA hR hj
  refine aG_ ?_
  simp only [aa_.l1]
  rw [aU_]
  have hl : Y.length = P.length + R.length := by rw [h]; simp
  rcases hR with rfl | ⟨B, rfl⟩
  ·exact Ev_f (by simp at hl; omega) (by simpa using hj)
  ·simp only [List.length_cons] at hl
   refine Ev_t (by omega) (Ev_t (by omega) (Ev_t (bt_sp Y P.length (by omega) (by simp [h])) (by simpa using hj)))
 | cons b A ih =>
  intro P R h hA hR hj
  refine aG_ ?_
  simp only [aa_.l1]
  rw [aU_]
  have hl : Y.length = P.length + (A.length + 1) + R.length := by rw [h]; simp; omega
  refine Ev_t (by omega) (Ev_t (by omega) (Ev_f (bt_ne Y P.length (by omega) (by simp [h]; exact fun e => hA (by simp [e]))) ?_))
  rw [wr64s _ (by omega)]
  have := ih (P ++ [b]) R (by rw [h]; simp) (fun q => hA (by simp [q])) hR (by
   have e : (P ++ [b]).length + A.length = P.length + (b :: A).length := by simp; omega
   rw [e]; exact hj)
  simpa using this
abbrev no4 (c : Int) : P4 := ((⟨#[]⟩ : ByteArray), (⟨#[]⟩ : ByteArray), (⟨#[]⟩ : ByteArray), c)
theorem ext3 (Y : List UInt8) (n m : Nat) (a p q : List UInt8) (h : Y = a ++ p ++ q) (h1 : a.length = n) (h2 : n + p.length = m) : (Bs Y).extract n m = Bs p := by
 rw [← Bs_data ((Bs Y).extract n m), Go.Lib.extract_data, Bs_list, h]
 congr 1
 subst h1 h2
 simp
theorem rest_ev (Y : List UInt8) (hY : Y.length ≤ 1048576) : ∃ r : P4, Ev (fun k => aa_.l0 k (Bs Y) 0) r ∧
  ((∃ A C D, Y = A ++ 32 :: (C ++ 32 :: D) ∧ strings_SplitN.f (Bs Y) (⟨#[32]⟩ : ByteArray) 3 = some [Bs A, Bs C, Bs D] ∧ ∃ b, (∀ k, 2000000 < k → aH_.f k (Bs A) (Bs C) (Bs D) = some b ∧ aB_.f k [⟨Bs A, Bs C, Bs D⟩] = some b) ∧ r = if b = true then (Bs A, Bs C, Bs D, 0) else no4 9) ∨
   (∃ l : List ByteArray, l.length < 3 ∧ strings_SplitN.f (Bs Y) (⟨#[32]⟩ : ByteArray) 3 = some l ∧ r = no4 9)) := by
 have hs : (⟨#[32]⟩ : ByteArray) = Bs [32] := rfl
 rw [hs, splitN_f Y hY 32]
 rcases first_of 32 Y with h | ⟨A, B, h, hA⟩
 ·refine ⟨no4 9, ?_, .inr ⟨_, ?_, rfl, rfl⟩⟩
  ·refine seek0 Y hY _ Y [] [] (by simp) h (.inl rfl) (aG_ ?_)
   simp only [aa_.j2]
   simp only [List.length_nil, Nat.zero_add]
   rw [wr64s _ (by omega)]
   refine aG_ ?_
   simp only [aa_.l1]
   rw [aU_]
   refine Ev_f (by omega) (aG_ ?_)
   simp only [aa_.j4]
   rw [aU_]
   exact Ev_t (by omega) (Ev_n rfl)
  ·rw [splitK_miss 32 Y h]; simp
 ·have hlA : Y.length = A.length + 1 + B.length := by rw [h]; simp; omega
  have sk : ∀ r, Ev (fun k => aa_.l1 k (Bs Y) (A.length : Int) ((A.length + 1 : Nat) : Int)) r → Ev (fun k => aa_.l0 k (Bs Y) 0) r := fun r hr => by
   refine seek0 Y hY r A [] (32 :: B) (by simp [h]) hA (.inr ⟨B, rfl⟩) (aG_ ?_)
   simp only [aa_.j2]
   simp only [List.length_nil, Nat.zero_add]
   rw [wr64s _ (by omega)]
   exact hr
  obtain ⟨m, hm⟩ : ∃ m, min 3 (Y.length + 1) - 1 = m + 1 := ⟨min 3 (Y.length + 1) - 2, by omega⟩
  rw [hm, h, splitK_hit 32 A B hA, ← h]
  rcases first_of 32 B with hB | ⟨C, D, hB, hC⟩
  ·refine ⟨no4 9, sk _ ?_, .inr ⟨_, ?_, rfl, rfl⟩⟩
   ·have := seek1 Y hY (A.length : Int) (no4 9) B (A ++ [32]) [] (by simp [h]) hB (.inl rfl) (aG_ (by
     simp only [aa_.j4]
     rw [aU_]
     exact Ev_t (by simp; omega) (Ev_n rfl)))
    simpa using this
   ·rw [splitK_miss 32 B hB]; simp
  ·have hlB : B.length = C.length + 1 + D.length := by rw [hB]; simp; omega
   have hm1 : m = 1 := by omega
   subst hm1
   rw [hB, splitK_hit 32 C D hC, Go.Lib.splitK]
   have hh : Y = A ++ 32 :: (C ++ 32 :: D) := by rw [h, hB]
   obtain ⟨b, hb⟩ := validB_ev (⟨Bs A, Bs C, Bs D⟩ : S43) (by show ((Bs D).size : Int) ≤ 1048576; rw [aU_]; omega)
   refine ⟨if b = true then (Bs A, Bs C, Bs D, 0) else no4 9, sk _ ?_, .inl ⟨A, C, D, hh, by simp, b, fun k hk => ⟨(hb k hk).2, (hb k hk).1⟩, rfl⟩⟩
   have := seek1 Y hY (A.length : Int) (if b = true then (Bs A, Bs C, Bs D, 0) else no4 9) C (A ++ [32]) (32 :: D) (by simp [hh]) hC (.inr ⟨D, rfl⟩) (aG_ (by
    simp only [aa_.j4]
    rw [aU_]
    have e1 : ((A ++ [32]).length + C.length : Nat) = A.length + 1 + C.length := by simp
    rw [e1, wr64s A.length (by omega), wr64s (A.length + 1 + C.length) (by omega)]
    refine Ev_f (by omega) (Ev_t (by omega) (Ev_t (by omega) (Ev_s (Ev_t (by omega) (Ev_t (by omega) (Ev_t (by omega) (Ev_s (Ev_t (by omega) (Ev_t (by omega) (Ev_s ?_))))))))))
    rw [Int.toNat_natCast, Int.toNat_natCast, Int.toNat_natCast, Int.toNat_natCast]
    rw [ext3 Y 0 A.length [] A (32 :: (C ++ 32 :: D)) (by simp [hh]) rfl (by simp)]
    rw [ext3 Y (A.length + 1) (A.length + 1 + C.length) (A ++ [32]) C (32 :: D) (by simp [hh]) (by simp) rfl]
    rw [ext3 Y (A.length + 1 + C.length + 1) Y.length (A ++ [32] ++ C ++ [32]) D [] (by simp [hh]) (by simp; omega) (by omega)]
    refine Ev_b (a := b) ⟨2000001, fun k hk => (hb k (by omega)).1⟩ ?_
    cases b with
    | true => exact Ev_t rfl (Ev_n rfl)
    | false => exact Ev_f (by decide) (Ev_n rfl)))
   simpa using this
theorem parse_ev (x : ByteArray) (hx : (x.size : Int) ≤ 1048576) : ∃ r : P4, Ev (fun k => aa_.f k x) r ∧ Ev (fun k => ai_.f k x) r ∧ (r.2.2.1.size : Int) ≤ 1048576 ∧ (r.2.2.2 = 0 → ∀ k, 2000000 < k → aH_.f k r.1 r.2.1 r.2.2.1 = some true ∧ aB_.f k [⟨r.1, r.2.1, r.2.2.1⟩] = some true) ∧ (r.2.2.2 ≠ 0 → r = no4 r.2.2.2) := by
 have no9 : Ev (fun k => aa_.j0 k x true) (no4 9) ∧ Ev (fun k => ai_.j0 k x true) (no4 9) := by
  constructor
  ·refine aG_ ?_; simp only [aa_.j0]; exact Ev_t (by first | exact True.intro | rfl) (Ev_n rfl)
  ·refine aG_ ?_; simp only [ai_.j0]; exact Ev_t (by first | exact True.intro | rfl) (Ev_n rfl)
 have bad : ∀ c : Int, c ≠ 0 → ((no4 c).2.2.1.size : Int) ≤ 1048576 ∧ ((no4 c).2.2.2 = 0 → ∀ k, 2000000 < k → aH_.f k (no4 c).1 (no4 c).2.1 (no4 c).2.2.1 = some true ∧ aB_.f k [⟨(no4 c).1, (no4 c).2.1, (no4 c).2.2.1⟩] = some true) ∧ ((no4 c).2.2.2 ≠ 0 → no4 c = no4 (no4 c).2.2.2) := fun c hc => ⟨by show ((0 : Nat) : Int) ≤ 1048576; omega, fun h => absurd h hc, fun _ => rfl⟩
 simp only [aa_.f, ai_.f]
 by_cases h6 : (x.size : Int) < 6
 ·exact ⟨no4 9, Ev_t h6 no9.1, Ev_t h6 no9.2, bad 9 (by decide)⟩
 by_cases h5 : (bt x 5 != 32) = true
 ·exact ⟨no4 9, Ev_f h6 (Ev_t (by omega) (by rw [h5]; exact no9.1)), Ev_f h6 (Ev_t (by omega) (by rw [h5]; exact no9.2)), bad 9 (by decide)⟩
 have h5' : (bt x 5 != 32) = false := by simpa using h5
 rw [h5']
 obtain ⟨Y, hY⟩ : ∃ Y, Y = (x.extract 6 x.size).data.toList := ⟨_, rfl⟩
 have hB : x.extract 6 x.size = Bs Y := by rw [hY, Bs_data]
 have hYl : Y.length ≤ 1048576 := by
  have : (Bs Y).size = Y.length := aU_ Y
  rw [← hB, ByteArray.size_extract] at this
  omega
 obtain ⟨n, n0, n1, c1, c2⟩ := crc_ev (Bs Y) (by rw [aU_]; omega)
 have f1 := five_spec n n0 n1
 have f2 := five_impl (Bs Y) n n0 n1 c2
 have go : ∃ r : P4, Ev (fun k => aa_.j0 k x false) r ∧ Ev (fun k => ai_.j0 k x false) r ∧ (r.2.2.1.size : Int) ≤ 1048576 ∧ (r.2.2.2 = 0 → ∀ k, 2000000 < k → aH_.f k r.1 r.2.1 r.2.2.1 = some true ∧ aB_.f k [⟨r.1, r.2.1, r.2.2.1⟩] = some true) ∧ (r.2.2.2 ≠ 0 → r = no4 r.2.2.2) := by
  by_cases hd : (x.extract 0 5).toList = (five n).toList
  case neg =>
   refine ⟨no4 10, aG_ ?_, aG_ ?_, bad 10 (by decide)⟩
   ·simp only [aa_.j0]
    rw [hB]
    exact Ev_f (by decide) (Ev_t (by omega) (Ev_s (Ev_t (by omega) (Ev_b c1 (Ev_b f1 (Ev_f hd (Ev_n rfl)))))))
   ·simp only [ai_.j0]
    rw [hB]
    exact Ev_f (by decide) (Ev_t (by omega) (Ev_s (Ev_t (by omega) (Ev_b f2 (Ev_f hd (Ev_n rfl))))))
  obtain ⟨r, s1, hr⟩ := rest_ev Y hYl
  have sp : Ev (fun k => aa_.j0 k x false) r := by
   refine aG_ ?_
   simp only [aa_.j0]
   rw [hB]
   exact Ev_f (by decide) (Ev_t (by omega) (Ev_s (Ev_t (by omega) (Ev_b c1 (Ev_b f1 (Ev_t hd s1))))))
  rcases hr with ⟨A, C, D, hYe, hsp, b, hb, rfl⟩ | ⟨l, hl, hsp, rfl⟩
  ·have e0 : rdOf ByteArray.empty [Bs A, Bs C, Bs D] 0 = Bs A := rfl
   have e1 : rdOf ByteArray.empty [Bs A, Bs C, Bs D] 1 = Bs C := rfl
   have e2 : rdOf ByteArray.empty [Bs A, Bs C, Bs D] 2 = Bs D := rfl
   have ip : Ev (fun k => ai_.j0 k x false) (if b = true then (Bs A, Bs C, Bs D, 0) else no4 9) := by
    refine aG_ ?_
    simp only [ai_.j0]
    rw [hB]
    refine Ev_f (by decide) (Ev_t (by omega) (Ev_s (Ev_t (by omega) (Ev_b f2 (Ev_t hd (Ev_b (Ev_c hsp) ?_))))))
    have l3 : ((([Bs A, Bs C, Bs D] : List ByteArray).length : Nat) : Int) = 3 := rfl
    rw [l3]
    refine Ev_f (by decide) (Ev_t (by decide) (Ev_t (by decide) (Ev_t (by decide) ?_)))
    rw [e0, e1, e2]
    refine Ev_b (a := b) ⟨2000001, fun k hk => (hb k (by omega)).1⟩ ?_
    cases b with
    | true => exact Ev_t rfl (Ev_n rfl)
    | false => exact Ev_f (by decide) (Ev_n rfl)
   cases b with
   | false => exact ⟨no4 9, sp, ip, bad 9 (by decide)⟩
   | true =>
    refine ⟨(Bs A, Bs C, Bs D, 0), sp, ip, ?_, fun _ k hk => hb k hk, fun h => absurd rfl h⟩
    show ((Bs D).size : Int) ≤ 1048576
    rw [aU_]
    have : Y.length = A.length + 1 + (C.length + 1 + D.length) := by rw [hYe]; simp; omega
    omega
  ·refine ⟨no4 9, sp, aG_ ?_, bad 9 (by decide)⟩
   simp only [ai_.j0]
   rw [hB]
   exact Ev_f (by decide) (Ev_t (by omega) (Ev_s (Ev_t (by omega) (Ev_b f2 (Ev_t hd (Ev_b (Ev_c hsp) (Ev_t (by omega) (Ev_n rfl))))))))
 obtain ⟨r, g1, g2, g3⟩ := go
 exact ⟨r, Ev_f h6 (Ev_t (by omega) g1), Ev_f h6 (Ev_t (by omega) g2), g3⟩
theorem spl_part (c : UInt8) : ∀ (l x : List UInt8), x ∈ spl c l → x.length ≤ l.length
 | [], x, h => by simp [spl] at h; simp [h]
 | b :: l, x, h => by
  rw [spl] at h
  split at h
  ·rcases List.mem_cons.1 h with rfl | h
   ·simp
   ·have := spl_part c l x h; simp; omega
  ·cases hs : spl c l with
   | nil => exact absurd hs (spl_ne c l)
   | cons a t =>
    rw [hs] at h
    simp only at h
    rcases List.mem_cons.1 h with rfl | h
    ·have := spl_part c l a (by rw [hs]; simp); simp; omega
    ·have := spl_part c l x (by rw [hs]; simp [h]); simp; omega
def lns (s : ByteArray) : List ByteArray := (spl 10 s.data.toList).map Bs
theorem lns_len (s : ByteArray) : 1 ≤ (lns s).length ∧ (lns s).length ≤ s.size + 1 := by
 unfold lns
 rw [List.length_map]
 have h1 := spl_len 10 s.data.toList
 have h2 := spl_ne 10 s.data.toList
 have h3 : s.data.toList.length = s.size := by rw [Array.length_toList]; rfl
 have h4 : 0 < (spl 10 s.data.toList).length := List.length_pos_iff.2 h2
 omega
theorem lns_size (s x : ByteArray) (h : x ∈ lns s) : x.size ≤ s.size := by
 unfold lns at h
 obtain ⟨y, hy, rfl⟩ := List.mem_map.1 h
 have := spl_part 10 _ y hy
 rw [aU_]
 have h3 : s.data.toList.length = s.size := by rw [Array.length_toList]; rfl
 omega
theorem split_i (s : ByteArray) (hs : (s.size : Int) ≤ 1048576) : strings_Split.f s (⟨#[10]⟩ : ByteArray) = some (lns s) := split_f s hs 10
theorem split_s (s : ByteArray) (hs : (s.size : Int) ≤ 1048576) : Ev (fun k => aw_.f k s 10) (lns s) := by
 have h3 : s.data.toList.length = s.size := by rw [Array.length_toList]; rfl
 have := split_spec s.data.toList (by omega) 10
 rw [Bs_data] at this
 exact this
theorem lines_ev (s : ByteArray) (hs : (s.size : Int) ≤ 1048576) (n : Nat) (hn : n + 1 = (lns s).length) : Ev (fun k => aZ_.f k s) ((lns s).take n, (rdOf ByteArray.empty (lns s) (n : Int)).toList == ([] : List UInt8)) := by
 have hl := lns_len s
 have e : wrap64 (((lns s).length : Int) - 1) = (n : Int) := by rw [wr64 (by omega) (by omega)]; omega
 simp only [aZ_.f]
 refine Ev_b (split_s s hs) ?_
 rw [e]
 exact Ev_t (by omega) (Ev_t (by omega) (Ev_t (by omega) (Ev_n (by rw [Int.toNat_natCast]))))
theorem damaged_ev (s : ByteArray) (hs : (s.size : Int) ≤ 1048576) : ∃ r : List Int, (r.length : Int) ≤ 1048577 ∧ Ev (fun k => aj_.f k s) r ∧ Ev (fun k => ag_.f k s) r := by
 have hl := lns_len s
 obtain ⟨n, hn⟩ : ∃ n, n + 1 = (lns s).length := ⟨(lns s).length - 1, by omega⟩
 have hlin := lines_ev s hs n hn
 have hsz := lns_size s
 have hsp := split_i s hs
 generalize hP : lns s = P at hn hlin hsz hsp hl
 have hnP : n < P.length := by omega
 have htl : (P.take n).length = n := by rw [List.length_take]; omega
 have go : ∀ (d i : Nat) (out : List Int), i + d = n → out.length ≤ i → ∃ r : List Int, r.length ≤ n + 1 ∧ Ev (fun k => aj_.l0 k (P.take n) ((rdOf ByteArray.empty P (n : Int)).toList == ([] : List UInt8)) out i) r ∧ Ev (fun k => ag_.l0 k P (n : Int) out i) r := by
  intro d
  induction d with
  | zero =>
   intro i out h1 h2
   by_cases c : (rdOf ByteArray.empty P (n : Int)).toList = ([] : List UInt8)
   rotate_left
   ·refine ⟨out ++ [((n + 1 : Nat) : Int)], by simp; omega, aG_ ?_, aG_ ?_⟩
    ·simp only [aj_.l0]; rw [htl, wr64s n (by omega)]; exact Ev_f (by omega) (Ev_f (fun h => c (eq_of_beq h)) (Ev_t (by omega) (Ev_n rfl)))
    ·simp only [ag_.l0]; rw [wr64s n (by omega)]; exact Ev_f (by omega) (Ev_t (by omega) (Ev_t (by omega) (Ev_f c (Ev_t (by omega) (Ev_n rfl)))))
   refine ⟨out, by omega, aG_ ?_, aG_ ?_⟩
   ·simp only [aj_.l0]; rw [htl]; exact Ev_f (by omega) (Ev_t (by rw [c]; rfl) (Ev_n rfl))
   ·simp only [ag_.l0]; exact Ev_f (by omega) (Ev_t (by omega) (Ev_t (by omega) (Ev_t c (Ev_n rfl))))
  | succ d ih =>
   intro i out h1 h2
   have hi : i < P.length := by omega
   have r1 := rdO_in P i hi
   have r2 : rdOf ByteArray.empty (P.take n) (i : Int) = P[i] := by
    rw [rdO_in (P.take n) i (by omega), List.getElem_take]
   have hx := hsz P[i] (List.getElem_mem _)
   obtain ⟨q, p1, p2, _, _, _⟩ := parse_ev P[i] (by omega)
   by_cases c : q.2.2.2 = 0
   rotate_left
   ·obtain ⟨r, r0, g1, g2⟩ := ih (i + 1) (out ++ [((i + 1 : Nat) : Int)]) (by omega) (by simp; omega)
    refine ⟨r, r0, aG_ ?_, aG_ ?_⟩
    ·simp only [aj_.l0]; rw [htl, r2, wr64s i (by omega)]; exact Ev_t (by omega) (Ev_t (by omega) (Ev_b p1 (Ev_f c (Ev_t (by omega) g1))))
    ·simp only [ag_.l0]; rw [r1, wr64s i (by omega)]; exact Ev_t (by omega) (Ev_t (by omega) (Ev_t (by omega) (Ev_b p2 (Ev_f c (Ev_t (by omega) g2)))))
   obtain ⟨r, r0, g1, g2⟩ := ih (i + 1) out (by omega) (by omega)
   refine ⟨r, r0, aG_ ?_, aG_ ?_⟩
   ·simp only [aj_.l0]; rw [htl, r2, wr64s i (by omega)]; exact Ev_t (by omega) (Ev_t (by omega) (Ev_b p1 (Ev_t c g1)))
   ·simp only [ag_.l0]; rw [r1, wr64s i (by omega)]; exact Ev_t (by omega) (Ev_t (by omega) (Ev_t (by omega) (Ev_b p2 (Ev_t c g2))))
 have fin : ∃ r : List Int, (r.length : Int) ≤ 1048577 ∧ Ev (fun k => aj_.l0 k (P.take n) ((rdOf ByteArray.empty P (n : Int)).toList == ([] : List UInt8)) [] 1) r ∧ Ev (fun k => ag_.l0 k P (n : Int) [] 1) r := by
  rcases Nat.eq_zero_or_pos n with h0 | h0
  ·by_cases c : (rdOf ByteArray.empty P (n : Int)).toList = ([] : List UInt8)
   ·refine ⟨[], by simp, aG_ ?_, aG_ ?_⟩
    ·simp only [aj_.l0]; rw [htl]; exact Ev_f (by omega) (Ev_t (by rw [c]; rfl) (Ev_n rfl))
    ·simp only [ag_.l0]; exact Ev_f (by omega) (Ev_t (by omega) (Ev_t (by omega) (Ev_t c (Ev_n rfl))))
   ·refine ⟨[((n + 1 : Nat) : Int)], by simp, aG_ ?_, aG_ ?_⟩
    ·simp only [aj_.l0]; rw [htl, wr64s n (by omega)]; exact Ev_f (by omega) (Ev_f (fun h => c (eq_of_beq h)) (Ev_t (by simp) (Ev_n rfl)))
    ·simp only [ag_.l0]; rw [wr64s n (by omega)]; exact Ev_f (by omega) (Ev_t (by omega) (Ev_t (by omega) (Ev_f c (Ev_t (by simp) (Ev_n rfl)))))
  ·obtain ⟨r, r0, g1, g2⟩ := go (n - 1) 1 [] (by omega) (by simp)
   exact ⟨r, by omega, g1, g2⟩
 obtain ⟨r, r0, g1, g2⟩ := fin
 have e : wrap64 ((P.length : Int) - 1) = (n : Int) := by rw [wr64 (by omega) (by omega)]; omega
 refine ⟨r, r0, ?_, ?_⟩
 ·simp only [aj_.f]
  exact Ev_b hlin g1
 ·simp only [ag_.f]
  refine Ev_b (Ev_c hsp) ?_
  rw [e]
  exact g2
theorem law_DamagedLines : au_.Pure := by
 intro u hu
 have hM : maxLen = 9223372036854775807 := by decide
 refine Ev.rounds (r := true) ?_
 simp only [au_.f]
 by_cases lu : (u.size : Int) > 1048576
 ·exact Ev_t lu (Ev_n rfl)
 refine Ev_f lu ?_
 obtain ⟨r0, E0, e1, e2⟩ := damaged_ev u (by omega)
 have qr0 := eqInt64S_ev' r0 (by omega)
 obtain ⟨pr0, _, mr0, hr0⟩ := mk_Int64 r0 1 (by omega) (by omega) (by omega)
 repeat' (first | ((first | (with_reducible refine Ev_b e1 ?_) | (with_reducible refine Ev_b e2 ?_) | (with_reducible refine Ev_b qr0 ?_) | (with_reducible refine Ev_b mr0 ?_) | (with_reducible refine Ev_b hr0 ?_)); try dsimp only) | (with_reducible refine Ev_t rfl ?_) | (with_reducible refine Ev_t True.intro ?_) | (refine Ev_f (by omega) ?_) | (refine Ev_t (by omega) ?_) | (refine Ev_f (by simp) ?_) | exact Ev_n rfl | (refine aG_ ?_; first | simp only [au_.j0] | simp only [au_.j1] | simp only [au_.j2]))
end Go.Proofs.YtjebkmfljcanlaaDoor.Q
namespace Go.Proofs.YtjebkmfljcanlaaDoor.Pure
open Go.Proofs.YtjebkmfljcanlaaDoor.Q
theorem FnExactDamagedLines : au_.Pure := law_DamagedLines
end Go.Proofs.YtjebkmfljcanlaaDoor.Pure
namespace Go.Proofs.YtjebkmfljcanlaaDoor.OPN
open Go
theorem wrap_and_shaped {H : Type} {enc : TypeId × Value → H} {a : Assume} {C : Checked} {os : Os} {f : FuncId} {fn : Func} {s : ChangeSpec} {conds : List PathCond} {apart fresh handsOn again : Bool} {X : World → Array Value → Prop}
  (hX : ∀ (w w' : World) (args : Array Value), w.heap = w'.heap → X w args → X w' args)
  (own : ownKnob C.prog.godebug = none) (started : os.Started) (noInit : C.prog.inits.idxOf? f = none) (hfn : C.prog.funcs[f]? = some fn)
  (witness : ∃ (w : World) (tape : Tape) (i : Input), w.os = os ∧ (w.forCall tape i).Shaped C.prog ∧ i.vars = [] ∧ Input.okWide C.prog (w.forCall tape i) .any w.heap.size f i ∧
   ((s.pre enc C.prog fn conds apart (w.forCall tape i).memory i.args ∧ X (w.forCall tape i).memory i.args) ∧ sizedMet enc C.prog fn (OpenSpec.ofChange s) apart (w.forCall tape i).memory i.args) ∧ a.holds C.prog (lone (Frame.enter C.prog f i.args .normal) [] (w.forCall tape i)))
  (contract : ∀ (W : World) (base : Nat) (args : Array Value) (ds gs : List (DataW H)) (before : List MemPlace),
   (∀ (j : Nat) t v, fn.params[j]? = some t → args[j]? = some v → Value.okWide C.prog W .any base t v) →
   DataW.Whole enc C.prog fn.params.toList s.vars apart W args.toList ds gs before →
   conds.all (PathCond.test C.prog ⟨fn.params.toList, ds, s.plain.varTypes C.prog, gs⟩) = true →
   (DataW.weightsEach C.prog (fn.params.toList ++ s.plain.varTypes C.prog) (ds ++ gs)).all (· ≤ reachBytes) = true → X W args → W.ShapedOpen C.prog →
   a.holds C.prog (lone (Frame.enter C.prog f args .normal) [] W) →
   Calls C.prog f args W fun e W' => ∃ v, e = .returned v ∧ s.post enc C.prog fn apart fresh handsOn again W args v W') :
  ReturnsInHanded a C os f .any (fun w args => (s.pre enc C.prog fn conds apart w args ∧ X w args) ∧ sizedMet enc C.prog fn (OpenSpec.ofChange s) apart w args) (s.post enc C.prog fn apart fresh handsOn again) := by
 refine returnsInHanded_of_calls own started noInit witness ?_
 intro w tape i _ hsh _ hok hpre hholds
 obtain ⟨_, _, _, fn', hfn', _, _, _, _, hval⟩ := hok
 have e : fn' = fn := Option.some.inj (hfn'.symm.trans hfn)
 subst e
 obtain ⟨⟨⟨ds, gs, before, hw, hc⟩, hx⟩, hz⟩ := hpre
 have hw' := DataW.Whole.of_heap (w' := w.forCall tape i) (by rfl) hw
 refine (contract (w.forCall tape i) w.heap.size i.args ds gs before hval hw' hc (hz.weights hw) (hX _ _ _ (by rfl) hx) hsh hholds).mono fun e W' ⟨v, he, hp⟩ => ?_
 subst he
 exact ChangeSpec.post_blind hp
end Go.Proofs.YtjebkmfljcanlaaDoor.OPN
namespace Go.Proofs.YtjebkmfljcanlaaDoor.fnExactDamagedLines
open Go.ChangeShapes Go.WideShapes Go.ChangeAt Go.RowKit Go.Proofs.YtjebkmfljcanlaaDoor.OPN Go.Proofs.YtjebkmfljcanlaaDoor.Q Go.Proofs.YtjebkmfljcanlaaDoorW.PrintWords
open Go.ChangeMaps (open_string shut_string)
theorem own : ownKnob Tryd.prog.godebug = none := by kernel_rfl
theorem laidOut : laidOutB Tryd.prog = true := by kernel_rfl
theorem tab_of {W : World} (hL : laidMetH Tryd.prog Rows.fnExactDamagedLinesRow.laid W) (hsh : W.ShapedOpen Tryd.prog) : Tab_ W := by
 refine ⟨?_, ?_⟩
 ·have hl := hL
  rw [MakeChecks.laidMetH_plain _ _ _ (by kernel_rfl)] at hl
  have h1 := (laidMet.tail (laidMet.tail hl))
  have e_ : (Rows.laid_internal_strconv_uint64pow10 : DataW Unit) = Lib.tabData .u64 Lib.pow10Tab := by rfl
  refine Lib.tabIs_of_head (g := 3) (t := 132) (e := 79) (n := 20) (rest := [("unicode/utf8.acceptRanges", Rows.laid_unicode_utf8_acceptRanges), ("unicode/utf8.first", Rows.laid_unicode_utf8_first)]) (by kernel_rfl) (by kernel_rfl) Tryd.underlying132 Tryd.underlying79 (by kernel_rfl) (by kernel_rfl) ?_
  rw [← e_]
  exact h1
 ·exact Tryd.laysM219.s1_3 W hsh
set_option maxRecDepth 100000 in
theorem lifted (os : Os) (started : os.Started) (H : Type) (enc : TypeId × Value → H) :
  ReturnsInHanded {} Tryd.checked os 3 .any (fun w args => (Rows.fnExactDamagedLinesSpec.pre enc Tryd.prog Tryd.f3 Rows.fnExactDamagedLinesRow.domain false w args ∧ laidMetH Tryd.prog Rows.fnExactDamagedLinesRow.laid w) ∧ sizedMet enc Tryd.prog Tryd.f3 (OpenSpec.ofChange Rows.fnExactDamagedLinesSpec) false w args) (Rows.fnExactDamagedLinesSpec.post enc Tryd.prog Tryd.f3 false true false false) := by
 refine wrap_and_shaped (C := Tryd.checked) (X := fun w _ => laidMetH Tryd.prog Rows.fnExactDamagedLinesRow.laid w) (fun _ _ _ hh h => h.of_heap hh) own started (by kernel_rfl) Tryd.func3
  (ChangeSpec.witness_shaped (enc := enc) (C := Tryd.checked) (os := os) (X := fun w _ => laidMetH Tryd.prog Rows.fnExactDamagedLinesRow.laid w) false (World.laidAll Tryd.prog os Rows.fnExactDamagedLinesRow.laid) #[.string ByteArray.empty] 8 (World.laidAll_os _ _ _) (World.shaped_of_ZipB (by kernel_rfl) (by kernel_rfl)) (by kernel_rfl) (by kernel_rfl) (by kernel_rfl) (by rw [MakeChecks.laidMetH_plain _ _ _ (by kernel_rfl)]; exact laidMet_laidAll _ (by kernel_rfl) (by kernel_rfl))) ?_
 intro W base args ds gs before hval0 hW hcnd hsz0 hL hsh _
 have hTab := tab_of hL hsh
 clear hL hsh
 have hval : ∀ (j : Nat) t v, Tryd.f3.params[j]? = some t → args[j]? = some v → Value.okWide Tryd.prog W .any base t v := hval0
 have hW' := hW
 obtain ⟨p, q, hA0, hV, rfl, hfz, hnd⟩ := hW
 have hA : DataW.TrodAll enc Tryd.prog W 0 (fun _ => true) true Tryd.f3.params.toList args.toList ds p := hA0
 rw [Tryd.params3] at hA hval
 obtain ⟨v0, vs0, d0, ds0, p0, q0, hargs, rfl, rfl, h0, r0⟩ := trodAll_cons hA
 obtain ⟨rfl, rfl, rfl⟩ := trodAll_nil r0
 obtain rfl : args = #[v0] := by cases args; simp_all
 obtain ⟨rfl, rfl⟩ := trodVars_none hV
 obtain ⟨x0, rfl, rfl, rfl, w0⟩ := open_string Tryd.underlying9 (hval 0 9 v0 rfl rfl) h0
 clear hA0 hval0 hsz0
 obtain ⟨k, hP⟩ := Pure.FnExactDamagedLines x0 w0
 refine (au_.calls k x0 true W hTab hP).mono fun e W' hh => ?_
 obtain ⟨rfl, bel0⟩ := hh
 have bel : Below W.heap.size W W' := bel0
 exact ⟨_, rfl, _, _, _, [], _, [], hW', trodAll_mk1 (shut_bool Tryd.underlying4 _), (trodAll_cons_mk (shut_string Tryd.underlying9 w0) trodAll_mk0), rfl, bel.frame _, fun h => by cases h⟩
theorem over : Rows.fnExactDamagedLinesRow.holds Tryd.pinned (OpenSpec.ofChange Rows.fnExactDamagedLinesSpec) :=
 OpenClaim.holds_of_wide 3 Tryd.f3 rfl rfl rfl rfl rfl rfl rfl ⟨rfl, rfl, rfl, rfl, rfl⟩ rfl rfl rfl rfl rfl (by kernel_rfl) Tryd.func3 (by kernel_rfl)
  (of_decide_eq_true (by kernel_rfl)) (by unfold Func.isWrapper; first | (rw [if_pos (by decide +kernel)]; kernel_rfl) | (rw [if_neg (by decide +kernel)]; exact ⟨rfl, rfl⟩))
  (fun os started H enc _ => lifted os started H enc)
theorem proved : Rows.FnExactDamagedLinesSaid := over
#print axioms proved
end Go.Proofs.YtjebkmfljcanlaaDoor.fnExactDamagedLines
namespace Go.Proofs.YtjebkmfljcanlaaDoor
open Go
theorem fnExactDamagedLines_holds : Rows.FnExactDamagedLinesCardSaid :=
 Claim7.holds_tied_plain_at .later [] [.data, .data, .data, .data, .pinned] true (true, "86b63af80d4f52972ed28c49f965f15c9686d21a29e66773e83e1a2c4e98e785") false fnExactDamagedLines.proved (fun _ h => by cases h) (by kernel_rfl) (fun _ h => by cases h) fnExactDamagedLines_row_tie rfl ⟨rfl, rfl⟩ (by kernel_rfl) rfl
  (fun f fn hf hfn => by
   obtain rfl : f = 3 := Option.some.inj ((show Tryd.prog.funcNamed "loop.example/g00956/laws.FnExactDamagedLines" = some 3 by kernel_rfl).symm.trans hf) |>.symm
   obtain rfl : fn = Tryd.f3 := (Option.some.inj (Tryd.func3.symm.trans hfn)).symm
   exact ⟨by kernel_rfl, fun j t ht => by
    rw [Tryd.params3] at ht
    have hm : t ∈ [9] := by simpa using Array.mem_of_getElem? ht
    have hall : ([9].all fun u => !Tryd.prog.wantsStandIn u) = true := by kernel_rfl
    exact (show Tryd.prog.wantsStandIn t = false by simpa using List.all_eq_true.1 hall t hm)⟩)
  (by kernel_rfl)
end Go.Proofs.YtjebkmfljcanlaaDoor
