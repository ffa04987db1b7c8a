/- a byte of a line that changes costs the block of this line alone This text holds the functions' walks and the words for them. -/
import Derived.KernelRfl
import Derived.Lib.Bytealg
import Derived.Lib.ItoaLen
import Derived.Lib.SplitLaws
import Derived.Lib.IndexBytes
import Derived.Laws.BitsLemmas
import Derived.Lib.Join
import Derived.Test.YtjebkmfljcanlaaDoorKFnSalvagea
import Derived.Test.YtjebkmfljcanlaaDoorKFnSalvageb
import Derived.Test.YtjebkmfljcanlaaDoorKFnSalvagee
import Derived.Test.YtjebkmfljcanlaaDoorKFnSalvaged
import Derived.Test.YtjebkmfljcanlaaDoorKFnSalvagec
set_option linter.unusedVariables false
set_option linter.unusedSimpArgs false
namespace Go.Proofs.YtjebkmfljcanlaaDoor.Q
open Go.RowKit Go.Proofs.YtjebkmfljcanlaaDoorW.PrintWords Go.Proofs.YtjebkmfljcanlaaDoorW.PrintLast Go.Proofs.YtjebkmfljcanlaaDoorW.PrintMore
attribute [local go_sem] aM_ aN_ be_ bc_ aC_ aD_ aL_ aK_
mutual
def ao_.l0 : Nat → List (S43) → ByteArray → List Int → Int → Int → Int → Int → Option (Bool)
 | 0, _, _, _, _, _, _, _ => none
 | k + 1, x5, x6, x8, x9, x10, x11, x12 => if x12 < x9 then (if 0 ≤ x12 then (if x12 < (x6.size : Int) then (if (bt x6 x12) = 10 then (ao_.l0 k x5 x6 x8 x9 x10 (wrap64 (x11 + 1)) (wrap64 (x12 + 1))) else (ao_.l0 k x5 x6 x8 x9 x10 x11 (wrap64 (x12 + 1)))) else (none)) else (none)) else (if x10 = 10 then (ao_.j1 k x5 x8 x11 true) else (if 0 ≤ x9 then (if x9 < (x8.length : Int) then (if (rd x8 x9) = 10 then (ao_.j1 k x5 x8 x11 true) else (ao_.j1 k x5 x8 x11 (x11 == 1))) else (none)) else (none)))
def ao_.j1 : Nat → List (S43) → List Int → Int → Bool → Option (Bool)
 | 0, _, _, _, _ => none
 | k + 1, x5, x8, x11, x69 => if x69 = true then (some true) else ((aV_.f k (strOfNums x8)).bind fun t116 => ((aO_.f k (strOfNums x8)).bind fun t119 => ((bO_.f k t116 (([x11] : List Int))).bind fun t125 => (if t125 = true then ((some (([] : List (S43)) : List (S43))).bind fun y126 => (if 0 ≤ (wrap64 (x11 - 2)) then (if (wrap64 (x11 - 2)) ≤ (x5.length : Int) then ((some (x5.take ((wrap64 (x11 - 2)) : Int).toNat : List (S43))).bind fun y129 => (if y126.length + y129.length < 2932031007402 then ((some (y126 ++ y129 : List (S43))).bind fun y133 => (if 0 ≤ (wrap64 (x11 - 1)) then (if (wrap64 (x11 - 1)) ≤ (x5.length : Int) then ((some (x5.drop ((wrap64 (x11 - 1)) : Int).toNat : List (S43))).bind fun y136 => (if y133.length + y136.length < 2932031007402 then ((bq_.f k t119 (y133 ++ y136)).bind fun t143 => (some t143)) else (none))) else (none)) else (none))) else (none))) else (none)) else (none))) else (some false)))))
end
def ao_.f (k : Nat) (l0 : List Int) (l1 : List Int) : Option (Bool) := (cC_.f l0 l1).bind fun t101 => (if t101 = true then (some true) else ((co_.f k l0).bind fun t102 => ((cb_.f k t102).bind fun bt105 => (if bt105.1.size ≤ 9223372036854775807 then ((some (bytesOf bt105.1 : List Int)).bind fun y107 => ((cx_.f l1 0 (y107.length : Int)).bind fun t110 => (if 0 ≤ t110 then (if t110 < (y107.length : Int) then ((cg_.f l1 2 255).bind fun t113 => (ao_.l0 k t102 bt105.1 (y107.set (t110 : Int).toNat (Go.bits .xor .u8 (rd y107 t110) ((wrap64 (1 + t113)) % 256))) t110 (rd y107 t110) 1 0)) else (none)) else (none)))) else (none)))))
def ao_.T8 : Bool × List (List Nat × List Nat) := (true, [([], []), ([], []), ([0, 1], [0, 1]), ([2], [2]), ([], []), ([4], [4]), ([5], [5]), ([6], [6]), ([3, 7], [3, 7]), ([0, 1, 0, 1, 2, 3, 4, 5, 6, 7, 8], [0, 1]), ([9, 8, 5, 0, 1, 2, 3, 4, 5, 6, 7, 8], [8, 9])])
def ao_.B8 : List Nat := [0, 0, 3, 7, 0, 16, 48, 112, 255, 511, 1023]
theorem ao_.tab8 : rtab .any (opsOf Tryd.f6 8) = ao_.T8 := by kernel_rfl
theorem ao_.bits8 : cE_ ao_.T8.2 ao_.B8 = true := by kernel_rfl
def ao_.T21 : Bool × List (List Nat × List Nat) := (true, [([], []), ([], []), ([], []), ([2], [2]), ([1, 3], [1, 3]), ([0, 4], [0, 4]), ([], []), ([], []), ([7], [7]), ([6, 8], [6, 8]), ([5, 9, 5], [5, 9]), ([10, 10, 0, 1, 2, 3, 4, 5, 6, 7, 8, 9, 10], [10])])
def ao_.B21 : List Nat := [0, 0, 0, 4, 14, 31, 0, 0, 128, 448, 1023, 2047]
theorem ao_.tab21 : rtab .any (opsOf Tryd.f6 21) = ao_.T21 := by kernel_rfl
theorem ao_.bits21 : cE_ ao_.T21.2 ao_.B21 = true := by kernel_rfl
set_option maxHeartbeats 8000000 in
set_option maxRecDepth 100000 in
theorem ao_.calls (k : Nat) (A0 : Option Addr) (c0 : Nat) (l0 : List Int) (A1 : Option Addr) (c1 : Nat) (l1 : List Int) (r : Bool) (w : World) (hr0 : Kd.C (Kd.int .u8) w A0 l0.length l0) (hc0 : l0.length ≤ c0) (hr1 : Kd.C (Kd.int .u8) w A1 l1.length l1) (hc1 : l1.length ≤ c1) (hTab_ : Tab_ w) (h : ao_.f k l0 l1 = some r) :
  Calls Tryd.prog 6 #[.slice A0 l0.length c0, .slice A1 l1.length c1] w fun e w' => e = .returned (.bool r) ∧ Below w.heap.size w w' := by
 have HTab_ := Aside0.mk hTab_
 clear hTab_
 have HR0 := Aside0.mk hr0
 have HC0 := Aside0.mk hc0
 clear hr0 hc0
 have HR1 := Aside0.mk hr1
 have HC1 := Aside0.mk hc1
 clear hr1 hc1
 have HB := Aside0.mk (Below.refl w.heap.size w)
 have H : ((cC_.f l0 l1).bind fun t101 => (if t101 = true then (some true) else ((co_.f k l0).bind fun t102 => ((cb_.f k t102).bind fun bt105 => (if bt105.1.size ≤ 9223372036854775807 then ((some (bytesOf bt105.1 : List Int)).bind fun y107 => ((cx_.f l1 0 (y107.length : Int)).bind fun t110 => (if 0 ≤ t110 then (if t110 < (y107.length : Int) then ((cg_.f l1 2 255).bind fun t113 => (ao_.l0 k t102 bt105.1 (y107.set (t110 : Int).toNat (Go.bits .xor .u8 (rd y107 t110) ((wrap64 (1 + t113)) % 256))) t110 (rd y107 t110) 1 0)) else (none)) else (none)))) else (none)))))) = some r := h
 clear h
 replace H := Option.bind_eq_some_iff.mp H
 obtain ⟨t101, A30, H⟩ := H
 (try dsimp only at H)
 have A3 := Aside0.mk A30
 clear A30
 have HC4 := Aside0.mk H
 clear H
 go_enter Tryd.func6, Tryd.ntmps6
 go_upto_if 18 with (first | ((with_reducible refine al_ (f := 19) rfl ?_); refine bf_ (some 18) rfl rfl Tryd.func19 (by kernel_rfl) rfl #[.slice A0 l0.length c0, .slice A1 l1.length c1] rfl (by first | rfl | (simp only [lma_, lmc_, lmn_]; first | done | rfl)) ?_; (with_reducible refine (cC_.calls _ _ l0 _ _ l1 t101 _ ?side1 ?side2 ?side3 ?side4 A3.out).mono ?_); (case side1 => exact cz HR0.out); (case side2 => exact HC0.out); (case side3 => exact cz HR1.out); (case side4 => exact HC1.out); rintro e w' ⟨rfl, ⟨nd, rfl⟩⟩; refine ⟨_, rfl, ?_⟩))
 (try simp only [Act.put, lsa_, ls0_, ls1_])
 have H := HC4.out
 clear HC4
 by_cases c5 : t101 = true
 rotate_left
 ·replace c5 := Bool.eq_false_iff.mpr c5
  subst c5
  have H1 : ((co_.f k l0).bind fun t102 => ((cb_.f k t102).bind fun bt105 => (if bt105.1.size ≤ 9223372036854775807 then ((some (bytesOf bt105.1 : List Int)).bind fun y107 => ((cx_.f l1 0 (y107.length : Int)).bind fun t110 => (if 0 ≤ t110 then (if t110 < (y107.length : Int) then ((cg_.f l1 2 255).bind fun t113 => (ao_.l0 k t102 bt105.1 (y107.set (t110 : Int).toNat (Go.bits .xor .u8 (rd y107 t110) ((wrap64 (1 + t113)) % 256))) t110 (rd y107 t110) 1 0)) else (none)) else (none)))) else (none)))) = some r := by rw [if_neg (show ¬ (false = true) by decide)] at H; exact H
  clear H
  have H := H1
  clear H1
  replace H := Option.bind_eq_some_iff.mp H
  obtain ⟨t102, A60, H⟩ := H
  (try dsimp only at H)
  have A6 := Aside0.mk A60
  clear A60
  replace H := Option.bind_eq_some_iff.mp H
  obtain ⟨⟨t105, t106⟩, A70, H⟩ := H
  (try dsimp only at H)
  have A7 := Aside0.mk A70
  clear A70
  by_cases c8 : t105.size ≤ 9223372036854775807
  rotate_left
  ·rw [if_neg c8] at H
   exact absurd H (by simp)
  rw [if_pos c8] at H
  have c8b0 := eq_true c8
  have c8b1 : decide (t105.size ≤ 9223372036854775807) = true := decide_eq_true c8
  try have c8b2 : (9223372036854775807 < t105.size) = False := eq_false (Nat.not_lt.2 c8)
  clear c8
  obtain ⟨y107, hy107⟩ : ∃ y_ : List Int, y_ = (bytesOf t105) := ⟨_, rfl⟩
  replace H : ((cx_.f l1 0 (y107.length : Int)).bind fun t110 => (if 0 ≤ t110 then (if t110 < (y107.length : Int) then ((cg_.f l1 2 255).bind fun t113 => (ao_.l0 k t102 t105 (y107.set (t110 : Int).toNat (Go.bits .xor .u8 (rd y107 t110) ((wrap64 (1 + t113)) % 256))) t110 (rd y107 t110) 1 0)) else (none)) else (none))) = some r := by first | (rw [hy107]; with_reducible exact H) | (have H2_ := (Option.bind_some _ _).symm.trans H; rw [hy107]; with_reducible exact H2_) | (have H2_ := (Option.bind_some _ _).symm.trans H; with_reducible exact H2_) | with_reducible exact H | (rw [hy107]; exact H) | exact H
  have Ny107 := Aside0.mk hy107
  clear hy107
  replace H := Option.bind_eq_some_iff.mp H
  obtain ⟨t110, A90, H⟩ := H
  (try dsimp only at H)
  have A9 := Aside0.mk A90
  clear A90
  by_cases c10 : 0 ≤ t110
  rotate_left
  ·rw [if_neg c10] at H
   exact absurd H (by simp)
  rw [if_pos c10] at H
  have c10b0 : decide (0 ≤ t110) = true := decide_eq_true c10
  clear c10
  (first | rw [c10b0] | (simp only [i64_w, i32_w]; rw [c10b0]) | (simp only [c10b1, Bool.not_true, Bool.not_false]) | (simp only [c10b0, Bool.not_true, Bool.not_false]) | skip)
  by_cases c11 : t110 < (y107.length : Int)
  rotate_left
  ·rw [if_neg c11] at H
   exact absurd H (by simp)
  rw [if_pos c11] at H
  have c11b0 : decide (t110 < (y107.length : Int)) = true := decide_eq_true c11
  clear c11
  replace H := Option.bind_eq_some_iff.mp H
  obtain ⟨t113, A120, H⟩ := H
  (try dsimp only at H)
  have A12 := Aside0.mk A120
  clear A120
  obtain ⟨y114, hy114⟩ : ∃ y_ : List Int, y_ = (y107.set (t110 : Int).toNat (Go.bits .xor .u8 (rd y107 t110) ((wrap64 (1 + t113)) % 256))) := ⟨_, rfl⟩
  replace H : (ao_.l0 k t102 t105 y114 t110 (rd y107 t110) 1 0) = some r := by first | (rw [hy114]; with_reducible exact H) | (have H2_ := (Option.bind_some _ _).symm.trans H; rw [hy114]; with_reducible exact H2_) | (have H2_ := (Option.bind_some _ _).symm.trans H; with_reducible exact H2_) | with_reducible exact H | (rw [hy114]; exact H) | exact H
  have Ny114 := Aside0.mk hy114
  clear hy114
  have H' := Aside0.mk H
  clear H
  try go_wp2_with (first | ((with_reducible refine al_ (f := 20) rfl ?_); refine bf_ (some 20) rfl rfl Tryd.func20 (by kernel_rfl) rfl #[.slice A0 l0.length c0] rfl (by first | rfl | (simp only [lma_, lmc_, lmn_]; first | done | rfl)) ?_; (with_reducible refine (co_.calls k _ _ l0 t102 _ ?side1 ?side2 A6.out).mono ?_); (case side1 => exact cz (Kd.bW_ HR0.out HB.out)); (case side2 => exact HC0.out); rintro e w14 ⟨v103, rfl, ho0, hb⟩; refine ⟨_, rfl, ?_⟩; have HO104 := Aside0.mk (Kd.bw_ ho0 (ak_ (bz HB.out))); replace HB := Aside0.mk (ah_ (bz HB.out) hb); (try clear hb); (try clear ho0); obtain ⟨Ao15, co15, eo15⟩ := Kd.bL_ HO104.out; subst eo15) | ((with_reducible refine al_ (f := 21) rfl ?_); refine bf_ (some 23) rfl rfl Tryd.func21 (by kernel_rfl) rfl #[.slice Ao15 t102.length co15] rfl (by first | rfl | (simp only [lma_, lmc_, lmn_]; first | done | rfl)) ?_; (with_reducible refine (cb_.calls k _ _ t102 t105 t106 _ ?side1 ?side2 A7.out).mono ?_); (case side1 => exact cz (Kd.aE_ HO104.out).2.2); (case side2 => exact (Kd.aE_ HO104.out).2.1); rintro e w16 ⟨rfl, hb⟩; refine ⟨_, rfl, ?_⟩; replace HO104 := Aside0.mk (Kd.bI_ (rz HO104.out) hb); replace HB := Aside0.mk (ah_ (bz HB.out) hb); (try clear hb)) | ((with_reducible refine aS_ (N := 27) rfl ?_); refine Kd.Z_conv 5 rfl (N := 27) rfl 9 33 t105 rfl rfl Tryd.underlying9 Tryd.underlying33 Tryd.underlying5 (of_decide_eq_true (by assumption)) (Below.refl _ _) (Nat.le_refl _) ?_; intro v108 w17 ho18 hb hg_ hnew_; clear hg_ hnew_; (first | rw [← Ny107.out] at ho18 | (simp only [Int.reduceToNat] at ho18; rw [← Ny107.out] at ho18)); replace HO104 := Aside0.mk (Kd.bI_ (rz HO104.out) hb); have HO109 := Aside0.mk (Kd.Z_lower ho18 (ak_ (bz HB.out))); replace HB := Aside0.mk (ah_ (bz HB.out) hb); clear hb ho18; obtain ⟨Ao19, co19, eo19⟩ := Kd.Z_slice HO109.out; subst eo19) | ((with_reducible refine al_ (f := 22) rfl ?_); refine bf_ (some 31) rfl rfl Tryd.func22 (by kernel_rfl) rfl #[.slice A1 l1.length c1, .int .i64 0, .int .i64 (y107.length : Int)] rfl (by first | rfl | (simp only [lma_, lmc_, lmn_]; first | done | rfl)) ?_; (with_reducible refine (cx_.calls _ _ l1 0 (y107.length : Int) t110 _ ?side1 ?side2 A9.out).mono ?_); (case side1 => exact cz (Kd.bW_ HR1.out HB.out)); (case side2 => exact HC1.out); rintro e w' ⟨rfl, ⟨nd, rfl⟩⟩; refine ⟨_, rfl, ?_⟩; (try (rw [cS_ w17]; generalize hq_ : World.drewN w17 _ = w17; have n0_ : Aside0 (Kd.R k43 43 w17 w.heap.size (fun k_ => True) (.slice Ao15 t102.length co15) t102) := ⟨by rw [← hq_]; exact (rz HO104.out)⟩; have n1_ : Aside0 (Kd.Z (Kd.int .u8) 5 w17 w.heap.size (fun k_ => True) (.slice Ao19 y107.length co19) y107) := ⟨by rw [← hq_]; exact (by (with_reducible repeat (first | apply Kd.cK_ | apply Kd.cL_ | apply Kd.cX_)); exact HO109.out)⟩; have n2_ : Aside0 (Below w.heap.size w w17) := ⟨by rw [← hq_]; exact (bz HB.out)⟩; clear HO104 HO109 HB hq_; have HO104 := n0_; have HO109 := n1_; have HB := n2_; clear n0_ n1_ n2_)); have p111 : 0 ≤ (t110 : Int) := of_decide_eq_true (by assumption); have q111 : t110 < (y107.length : Int) := of_decide_eq_true (by assumption); obtain ⟨ad111, e111, hx111_0⟩ := Kd.at_int (Kd.Z_reads' HO109.out).2.2 t110 p111 q111; cases e111; replace p111 := eq_true p111; replace q111 := eq_true q111))
  have n0_ := Aside0.mk (Kd.dd_ HO104.out)
  have n1_ := Aside0.mk (Kd.cX_ HO109.out)
  have n2_ := Aside0.mk (bD_ HB.out)
  clear HO104
  clear HO109
  clear HB
  have HO104 := n0_
  have HO109 := n1_
  have HB := n2_
  clear n0_ n1_ n2_
  have p112 : 0 ≤ (t110 : Int) := of_decide_eq_true (by assumption)
  have q112 : t110 < (y107.length : Int) := of_decide_eq_true (by assumption)
  obtain ⟨ad112, e112, hx112_0⟩ := Kd.at_int (Kd.Z_reads' HO109.out).2.2 t110 p112 q112
  obtain rfl : ad111 = ad112 := (by injection e112)
  replace p112 := eq_true p112
  replace q112 := eq_true q112
  refine cW_ (n := 11) (S := fun w' => w'.cell? (ad111.add (t110).toNat) = some (.int .u8 (rd y107 t110))) (ds := [10]) #[f_,f_,f_,f_,f_,f_,f_,f_,f_,f_,f_] (by kernel_rfl) rfl rfl (hx112_0) (fun hHeld => ?_); refine ce_ ao_.tab8 ao_.bits8 (fun HT_ HW_ => ?_)
  generalize w17.drew = w20 at HO104 HO109 HB hx112_0 hHeld ⊢
  refine pu 0 36 #[t_,f_,f_,f_,f_,f_,f_,f_,f_,f_,f_] HT_ ?_
  refine pu 1 37 #[t_,t_,f_,f_,f_,f_,f_,f_,f_,f_,f_] HT_ ?_
  refine pu 2 38 #[t_,t_,t_,f_,f_,f_,f_,f_,f_,f_,f_] HT_ ?_
  refine pu 4 40 #[t_,t_,t_,f_,t_,f_,f_,f_,f_,f_,f_] HT_ ?_
  refine tk 3 39 #[t_,t_,t_,t_,t_,f_,f_,f_,f_,f_,f_] HT_ HW_ hHeld ?_ (hv := by intro w' s0; go_simp; with_reducible rfl)
  refine one_ (i := 5) (N := some 41) #[t_,t_,t_,t_,t_,t_,f_,f_,f_,f_,f_] rfl rfl (bZ_ HT_.out (by kernel_rfl)) (by decide) (fun K hK => ?_)
  (first | refine goes_ Tryd.func23 (by kernel_rfl) rfl #[.slice A1 l1.length c1, .int .i64 2, .int .i64 255] (by rfl) rfl rfl (by first | rfl | (simp only [lma_, lmc_, lmn_]; first | done | rfl)) ?_ | refine RPW.cj_ Tryd.func23 (by kernel_rfl) rfl #[.slice A1 l1.length c1, .int .i64 2, .int .i64 255] (by rfl) rfl rfl rfl (by first | rfl | (simp only [lma_, lmc_, lmn_]; first | done | rfl)) ?_ | refine RPW.ci_ Tryd.func23 (by kernel_rfl) rfl #[.slice A1 l1.length c1, .int .i64 2, .int .i64 255] (by rfl) rfl rfl rfl (by first | rfl | (simp only [lma_, lmc_, lmn_]; first | done | rfl)) ?_)
  with_reducible refine (cg_.calls _ _ l1 2 255 t113 _ ?side1 ?side2 A12.out).mono ?_
  (case side1 => exact cz (Kd.bW_ HR1.out HB.out))
  (case side2 => exact HC1.out)
  rintro e w' ⟨rfl, ⟨nd, rfl⟩⟩
  refine ⟨_, rfl, ?_⟩
  have p13 : 0 ≤ (t110 : Int) := of_decide_eq_true (by assumption)
  have q13 : (t110 : Int) < ((y107.length : Int) : Int) := of_decide_eq_true (by assumption)
  obtain ⟨go13, co13, eo13, gb13, gl13, cl13, HG13⟩ := Kd.Z_form HO109.out (by omega)
  (first | cases eo13 | (injection eo13 with ea_ en_ ec_; (first | subst ea_ | (injection ea_ with ea_; subst ea_)); subst ec_; clear en_))
  have GB13 := Aside0.mk gb13
  have GG13 := Aside0.mk HG13
  clear gb13 gl13 HG13
  (first | simp only [add_plain] at hx111_0 | skip)
  (first | simp only [add_plain] at hx112_0 | skip)
  obtain ⟨hx13_0, hf13_0⟩ := Kd.Z_celln 0 HO109.out (t110 : Int) p13 q13
  replace p13 := eq_true p13
  replace q13 := eq_true q13
  have HP21 := Kd.Z_putn HO109.out (t110 : Int) (Go.bits .xor .u8 (rd y107 t110) ((wrap64 (1 + t113)) % 256))
  rw [← Ny114.out] at HP21
  have HQ21 := Aside0.mk HP21
  clear HP21
  refine hK.out _ _ (hHeld) (fun hHeld => ?_)
  clear hK K
  refine norm_ (a' := ?_) ?_ ?_
  rotate_left
  ·show Act.put _ (some 41) _ = _
   simp only [Act.put, lsa_, ls0_, ls1_, i64_w, i32_w]
   rfl
  refine pu 6 42 #[t_,t_,t_,t_,t_,t_,t_,f_,f_,f_,f_] HT_ ?_
  refine pu 7 43 #[t_,t_,t_,t_,t_,t_,t_,t_,f_,f_,f_] HT_ ?_
  refine pu 8 44 #[t_,t_,t_,t_,t_,t_,t_,t_,t_,f_,f_] HT_ ?_
  refine pu 9 45 #[t_,t_,t_,t_,t_,t_,t_,t_,t_,t_,f_] HT_ ?_
  refine last_ (i := 10) (N := none) #[t_,t_,t_,t_,t_,t_,t_,t_,t_,t_,t_] rfl rfl (bZ_ HT_.out (by kernel_rfl)) (by decide) (fun K hK => ?_)
  refine skip_ (w1 := ?_) (by rfl) rfl ?_ ?_
  rotate_left
  ·go_simp
   rfl
  refine hK.out _ _ ?_
  clear hK K
  refine done_ (cO_ HT_.out (by kernel_rfl)) ?_
  try go_wp2
  (try simp only [Act.put, lsa_, ls0_, ls1_])
  go_loopg [11, 12] k (fun kq v11 v12 w' => ∃ (x11_1 : Int) (x12_1 : Int), v11 = .int .i64 x11_1 ∧ v12 = .int .i64 x12_1 ∧ Aside0 (ao_.l0 kq t102 t105 y114 t110 (rd y107 t110) x11_1 x12_1 = some r) ∧ Aside0 (kq ≤ k) ∧ Aside0 (Kd.R k43 43 w' w.heap.size (fun _ => True) (.slice Ao15 t102.length co15) t102) ∧ Aside0 (Kd.Z (Kd.int .u8) 5 w' w.heap.size (fun _ => True) (.slice (some ⟨go13, 0, none⟩) y107.length co19) y114) ∧ Aside0 (Below w.heap.size w w'))
  case atStart => exact ⟨(1), (0), (by first | rfl | (simp; done) | (simp [*]; done)), (by first | rfl | (simp; done) | (simp [*]; done)), H', ⟨Nat.le_refl _⟩, ⟨by (with_reducible repeat (first | apply Kd.R_alloc | apply Kd.R_drewN | apply Kd.dd_)); exact Kd.aG_ (Kd.R_far (p := ⟨go13, (t110 : Int).toNat, none⟩) (Kd.Z_types HO104.out GG13.out (by decide)) (fun _ hk => hk.2) (.int .u8 (Go.bits .xor .u8 (rd y107 t110) ((wrap64 (1 + t113)) % 256)))) (fun _ hk => trivial)⟩, ⟨by (with_reducible repeat (first | apply Kd.cK_ | apply Kd.cL_ | apply Kd.cX_)); exact HQ21.out⟩, ⟨by repeat (first | (with_reducible first | exact HB.out | apply bA_ | apply bN_ | apply bD_ | refine ab_ ?_ GB13.out))⟩⟩
  case round =>
   clear H'
   obtain ⟨x11_1, x12_1, rfl, rfl, HA, HK1, HO_5, HO_8, HB⟩ := hrel
   have hl8_1 := (Kd.Z_reads' HO_8.out).1
   rw [hl8_1] at HO_8
   (try simp only [hl8_1])
   (try simp only [hl8_1] at HO_5)
   cases gk with
   | zero => exact absurd HA.out (by simp [ao_.l0])
   | succ k1 =>
    have H := HA.out
    clear HA
    simp only [ao_.l0] at H
    by_cases c22 : x12_1 < t110
    rotate_left
    ·rw [if_neg c22] at H
     have c22b0 : decide (x12_1 < t110) = false := decide_eq_false c22
     clear c22
     have HC27 := Aside0.mk H
     clear H
     go_upto_region 15 with (fail)
     go_cut [69] (fun v69 wc => ∃ (kq : Nat) (x69_26 : Bool), v69 = .bool x69_26 ∧ Aside0 (ao_.j1 kq t102 y114 x11_1 x69_26 = some r) ∧ Aside0 (kq ≤ k1) ∧ Aside0 (Kd.R k43 43 wc w.heap.size (fun _ => True) (.slice Ao15 t102.length co15) t102) ∧ Aside0 (Kd.Z (Kd.int .u8) 5 wc w.heap.size (fun _ => True) (.slice (some ⟨go13, 0, none⟩) y114.length co19) y114) ∧ Aside0 (Below w.heap.size w wc))
     case first =>
      have H := HC27.out
      clear HC27
      by_cases c28 : (rd y107 t110) = 10
      rotate_left
      ·rw [if_neg c28] at H
       have c28b0 : ((rd y107 t110) == 10) = false := beq_eq_false_iff_ne.mpr c28
       have c28b1 : ((rd y107 t110) != 10) = true := bne_iff_ne.mpr c28
       (first | rw [c28b0] | (simp only [i64_w, i32_w]; rw [c28b0]) | (simp only [c28b1, Bool.not_true, Bool.not_false]) | (simp only [c28b0, Bool.not_true, Bool.not_false]) | skip)
       by_cases c29 : 0 ≤ t110
       rotate_left
       ·rw [if_neg c29] at H
        exact absurd H (by simp)
       rw [if_pos c29] at H
       have c29b0 : decide (0 ≤ t110) = true := decide_eq_true c29
       clear c29
       by_cases c30 : t110 < (y114.length : Int)
       rotate_left
       ·rw [if_neg c30] at H
        exact absurd H (by simp)
       rw [if_pos c30] at H
       have c30b0 : decide (t110 < (y114.length : Int)) = true := decide_eq_true c30
       clear c30
       by_cases c31 : (rd y114 t110) = 10
       rotate_left
       ·rw [if_neg c31] at H
        have c31b0 : ((rd y114 t110) == 10) = false := beq_eq_false_iff_ne.mpr c31
        have c31b1 : ((rd y114 t110) != 10) = true := bne_iff_ne.mpr c31
        have H' := Aside0.mk H
        clear H
        have p115 : 0 ≤ (t110 : Int) := of_decide_eq_true (by assumption)
        have q115 : t110 < (y114.length : Int) := of_decide_eq_true (by assumption)
        obtain ⟨ad115, e115, hx115_0⟩ := Kd.at_int (Kd.Z_reads' HO_8.out).2.2 t110 p115 q115
        obtain rfl : (⟨go13, 0, none⟩ : Addr) = ad115 := (by injection e115)
        (first | simp only [add_plain] at hx115_0 | simp only [add_at] at hx115_0 | simp only [Addr.add, Nat.zero_add] at hx115_0 | skip)
        replace p115 := eq_true p115
        replace q115 := eq_true q115
        go_wp2
        go_meet
        case rel => exact ⟨_, ((x11_1 == 1)), (by first | rfl | (simp; done) | (simp [*]; done)), H', ⟨by have := HK1.out; first | omega | exact Nat.le_refl _⟩, ⟨by (try simp only [hl8_1]); (with_reducible repeat (first | apply Kd.R_alloc | apply Kd.R_drewN | apply Kd.dd_)); exact HO_5.out⟩, ⟨by (try simp only [hl8_1]); (with_reducible repeat (first | apply Kd.cK_ | apply Kd.cL_ | apply Kd.cX_)); exact HO_8.out⟩, ⟨bz HB.out⟩⟩
       rw [if_pos c31] at H
       have c31b0 : ((rd y114 t110) == 10) = true := beq_iff_eq.mpr c31
       have c31b1 : ((rd y114 t110) != 10) = false := bne_eq_false_iff_eq.mpr c31
       clear c31
       have H' := Aside0.mk H
       clear H
       have p115 : 0 ≤ (t110 : Int) := of_decide_eq_true (by assumption)
       have q115 : t110 < (y114.length : Int) := of_decide_eq_true (by assumption)
       obtain ⟨ad115, e115, hx115_0⟩ := Kd.at_int (Kd.Z_reads' HO_8.out).2.2 t110 p115 q115
       obtain rfl : (⟨go13, 0, none⟩ : Addr) = ad115 := (by injection e115)
       (first | simp only [add_plain] at hx115_0 | simp only [add_at] at hx115_0 | simp only [Addr.add, Nat.zero_add] at hx115_0 | skip)
       replace p115 := eq_true p115
       replace q115 := eq_true q115
       go_wp2
       go_meet
       case rel => exact ⟨_, (true), (by first | rfl | (simp; done) | (simp [*]; done)), H', ⟨by have := HK1.out; first | omega | exact Nat.le_refl _⟩, ⟨by (try simp only [hl8_1]); (with_reducible repeat (first | apply Kd.R_alloc | apply Kd.R_drewN | apply Kd.dd_)); exact HO_5.out⟩, ⟨by (try simp only [hl8_1]); (with_reducible repeat (first | apply Kd.cK_ | apply Kd.cL_ | apply Kd.cX_)); exact HO_8.out⟩, ⟨bz HB.out⟩⟩
      rw [if_pos c28] at H
      have c28b0 : ((rd y107 t110) == 10) = true := beq_iff_eq.mpr c28
      have c28b1 : ((rd y107 t110) != 10) = false := bne_eq_false_iff_eq.mpr c28
      clear c28
      (first | rw [c28b0] | (simp only [i64_w, i32_w]; rw [c28b0]) | (simp only [c28b1, Bool.not_true, Bool.not_false]) | (simp only [c28b0, Bool.not_true, Bool.not_false]) | skip)
      have H' := Aside0.mk H
      clear H
      go_wp2
      go_meet
      case rel => exact ⟨_, (true), (by first | rfl | (simp; done) | (simp [*]; done)), H', ⟨by have := HK1.out; first | omega | exact Nat.le_refl _⟩, ⟨by (try simp only [hl8_1]); (with_reducible repeat (first | apply Kd.R_alloc | apply Kd.R_drewN | apply Kd.dd_)); exact HO_5.out⟩, ⟨by (try simp only [hl8_1]); (with_reducible repeat (first | apply Kd.cK_ | apply Kd.cL_ | apply Kd.cX_)); exact HO_8.out⟩, ⟨bz HB.out⟩⟩
     case rest =>
      clear HC27
      obtain ⟨kq, x69_26, rfl, HA, HJ26, HO_5, HO_8, HB⟩ := hcut
      cases kq with
      | zero => exact absurd HA.out (by simp [ao_.j1])
      | succ kj26 =>
       have H := HA.out
       clear HA
       simp only [ao_.j1] at H
       by_cases c32 : x69_26 = true
       rotate_left
       ·replace c32 := Bool.eq_false_iff.mpr c32
        subst c32
        have H1 : ((aV_.f kj26 (strOfNums y114)).bind fun t116 => ((aO_.f kj26 (strOfNums y114)).bind fun t119 => ((bO_.f kj26 t116 (([x11_1] : List Int))).bind fun t125 => (if t125 = true then ((some (([] : List (S43)) : List (S43))).bind fun y126 => (if 0 ≤ (wrap64 (x11_1 - 2)) then (if (wrap64 (x11_1 - 2)) ≤ (t102.length : Int) then ((some (t102.take ((wrap64 (x11_1 - 2)) : Int).toNat : List (S43))).bind fun y129 => (if y126.length + y129.length < 2932031007402 then ((some (y126 ++ y129 : List (S43))).bind fun y133 => (if 0 ≤ (wrap64 (x11_1 - 1)) then (if (wrap64 (x11_1 - 1)) ≤ (t102.length : Int) then ((some (t102.drop ((wrap64 (x11_1 - 1)) : Int).toNat : List (S43))).bind fun y136 => (if y133.length + y136.length < 2932031007402 then ((bq_.f kj26 t119 (y133 ++ y136)).bind fun t143 => (some t143)) else (none))) else (none)) else (none))) else (none))) else (none)) else (none))) else (some false))))) = some r := by rw [if_neg (show ¬ (false = true) by decide)] at H; exact H
        clear H
        have H := H1
        clear H1
        replace H := Option.bind_eq_some_iff.mp H
        obtain ⟨t116, A330, H⟩ := H
        (try dsimp only at H)
        have A33 := Aside0.mk A330
        clear A330
        replace H := Option.bind_eq_some_iff.mp H
        obtain ⟨t119, A340, H⟩ := H
        (try dsimp only at H)
        have A34 := Aside0.mk A340
        clear A340
        obtain ⟨y122, hy122⟩ : ∃ y_ : List Int, y_ = (([x11_1] : List Int)) := ⟨_, rfl⟩
        replace H : ((bO_.f kj26 t116 y122).bind fun t125 => (if t125 = true then ((some (([] : List (S43)) : List (S43))).bind fun y126 => (if 0 ≤ (wrap64 (x11_1 - 2)) then (if (wrap64 (x11_1 - 2)) ≤ (t102.length : Int) then ((some (t102.take ((wrap64 (x11_1 - 2)) : Int).toNat : List (S43))).bind fun y129 => (if y126.length + y129.length < 2932031007402 then ((some (y126 ++ y129 : List (S43))).bind fun y133 => (if 0 ≤ (wrap64 (x11_1 - 1)) then (if (wrap64 (x11_1 - 1)) ≤ (t102.length : Int) then ((some (t102.drop ((wrap64 (x11_1 - 1)) : Int).toNat : List (S43))).bind fun y136 => (if y133.length + y136.length < 2932031007402 then ((bq_.f kj26 t119 (y133 ++ y136)).bind fun t143 => (some t143)) else (none))) else (none)) else (none))) else (none))) else (none)) else (none))) else (some false))) = some r := by first | (rw [hy122]; with_reducible exact H) | (have H2_ := (Option.bind_some _ _).symm.trans H; rw [hy122]; with_reducible exact H2_) | (have H2_ := (Option.bind_some _ _).symm.trans H; with_reducible exact H2_) | with_reducible exact H | (rw [hy122]; exact H) | exact H
        have Ny122 := Aside0.mk hy122
        clear hy122
        replace H := Option.bind_eq_some_iff.mp H
        obtain ⟨t125, A350, H⟩ := H
        (try dsimp only at H)
        have A35 := Aside0.mk A350
        clear A350
        have HC36 := Aside0.mk H
        clear H
        have hcv37 := Kd.Z_string (P := Tryd.prog) Tryd.underlying33 Tryd.underlying5 Tryd.underlying9 HO_8.out
        go_upto_if 80 with (first | ((with_reducible refine al_ (f := 8) rfl ?_); refine bf_ (some 72) rfl rfl Tryd.func8 (by kernel_rfl) rfl #[.string (strOfNums y114)] rfl (by first | rfl | (simp only [lma_, lmc_, lmn_]; first | done | rfl)) ?_; (with_reducible refine (aV_.calls kj26 (strOfNums y114) t116 _ ?side1 A33.out).mono ?_); (case side1 => exact cN_ HTab_.out (bz HB.out)); rintro e w38 ⟨v117, rfl, ho0, hb⟩; refine ⟨_, rfl, ?_⟩; replace HO_5 := Aside0.mk (Kd.bI_ (rz HO_5.out) hb); replace HO_8 := Aside0.mk (Kd.Z_below (by (with_reducible repeat (first | apply Kd.cK_ | apply Kd.cL_ | apply Kd.cX_)); exact HO_8.out) hb); have HO118 := Aside0.mk (Kd.bw_ ho0 (ak_ (bz HB.out))); replace HB := Aside0.mk (ah_ (bz HB.out) hb); (try clear hb); (try clear ho0); have hcv39 := Kd.Z_string (P := Tryd.prog) Tryd.underlying33 Tryd.underlying5 Tryd.underlying9 HO_8.out) | ((with_reducible refine al_ (f := 18) rfl ?_); refine bf_ (some 75) rfl rfl Tryd.func18 (by kernel_rfl) rfl #[.string (strOfNums y114)] rfl (by first | rfl | (simp only [lma_, lmc_, lmn_]; first | done | rfl)) ?_; (with_reducible refine (aO_.calls kj26 (strOfNums y114) t119 _ ?side1 A34.out).mono ?_); (case side1 => exact cN_ HTab_.out (bz HB.out)); rintro e w40 ⟨v120, rfl, ho0, hb⟩; refine ⟨_, rfl, ?_⟩; replace HO_8 := Aside0.mk (Kd.Z_below (by (with_reducible repeat (first | apply Kd.cK_ | apply Kd.cL_ | apply Kd.cX_)); exact HO_8.out) hb); replace HO118 := Aside0.mk (Kd.bI_ (rz HO118.out) hb); have HO121 := Aside0.mk (Kd.bw_ (Kd.bE_ ho0 (Kd.R_lt (rz HO_5.out))) (ak_ (bz HB.out))); replace HO_5 := Aside0.mk (Kd.aW_ (rz HO_5.out) (Kd.bs_ ho0) hb); replace HB := Aside0.mk (ah_ (bz HB.out) hb); (try clear hb); (try clear ho0)) | ((with_reducible refine aS_ (N := 78) rfl ?_); refine Kd.R_lit (Kd.int .i64) _ 2 ?hg (N := 78) ?hd (xs := ([x11_1] : List Int)) (inner := [.int .i64 x11_1]) (ok := fun _ => True) (okp := fun _ => True) ?hr ?hp (fun _ hk => hk) trivial (Below.refl _ _) (Nat.le_refl _) (by simp) ?_; (case hd => rfl); (case hg => rfl); (case hr => (go_simp; try rfl)); (case hp => exact (Reps.one (show Kd.M (Kd.int .i64) _ _ _ x11_1 [.int .i64 x11_1] from rfl) (Reps.none _ _))); intro v123 w41 ho42 hb hg_ hnew_; clear hg_ hnew_; (first | rw [← Ny122.out] at ho42 | (simp only [Int.reduceToNat] at ho42; rw [← Ny122.out] at ho42)); replace HO_5 := Aside0.mk (Kd.bI_ (rz HO_5.out) hb); replace HO_8 := Aside0.mk (Kd.Z_below (by (with_reducible repeat (first | apply Kd.cK_ | apply Kd.cL_ | apply Kd.cX_)); exact HO_8.out) hb); replace HO121 := Aside0.mk (Kd.bI_ (rz HO121.out) hb); have HO124 := Aside0.mk (Kd.bw_ (Kd.bE_ ho42 (Kd.R_lt (rz HO118.out))) (ak_ (bz HB.out))); replace HO118 := Aside0.mk (Kd.aW_ (rz HO118.out) (Kd.bs_ ho42) hb); replace HB := Aside0.mk (ah_ (bz HB.out) hb); clear hb ho42; obtain ⟨Ao43, co43, eo43⟩ := Kd.bL_ HO118.out; subst eo43; obtain ⟨Ao44, co44, eo44⟩ := Kd.bL_ HO124.out; subst eo44) | ((with_reducible refine al_ (f := 24) rfl ?_); refine bf_ (some 79) rfl rfl Tryd.func24 (by kernel_rfl) rfl #[.slice Ao43 t116.length co43, .slice Ao44 y122.length co44] rfl (by first | rfl | (simp only [lma_, lmc_, lmn_]; first | done | rfl)) ?_; (with_reducible refine (bO_.calls kj26 _ _ t116 _ _ y122 t125 _ ?side1 ?side2 ?side3 ?side4 A35.out).mono ?_); (case side1 => exact cz (Kd.aE_ HO118.out).2.2); (case side2 => exact (Kd.aE_ HO118.out).2.1); (case side3 => exact cz (Kd.aE_ HO124.out).2.2); (case side4 => exact (Kd.aE_ HO124.out).2.1); rintro e w' ⟨rfl, ⟨nd, rfl⟩⟩; refine ⟨_, rfl, ?_⟩; (try (rw [cS_ w41]; generalize hq_ : World.drewN w41 _ = w41; have n0_ : Aside0 (Kd.R (Kd.int .i64) 2 w41 w.heap.size (fun k_ => (True ∧ some k_ ≠ (.slice Ao44 y122.length co44 : Value).ownBlock)) (.slice Ao43 t116.length co43) t116) := ⟨by rw [← hq_]; exact (rz HO118.out)⟩; have n1_ : Aside0 (Kd.R k43 43 w41 w.heap.size (fun k_ => (True ∧ some k_ ≠ (.slice Ao15 t102.length co15 : Value).ownBlock)) v120 t119) := ⟨by rw [← hq_]; exact (rz HO121.out)⟩; have n2_ : Aside0 (Kd.R (Kd.int .i64) 2 w41 w.heap.size (fun k_ => (True ∧ some k_ ≠ (.slice Ao43 t116.length co43 : Value).ownBlock)) (.slice Ao44 y122.length co44) y122) := ⟨by rw [← hq_]; exact (rz HO124.out)⟩; have n3_ : Aside0 (Kd.R k43 43 w41 w.heap.size (fun k_ => (True ∧ some k_ ≠ (v120 : Value).ownBlock)) (.slice Ao15 t102.length co15) t102) := ⟨by rw [← hq_]; exact (rz HO_5.out)⟩; have n4_ : Aside0 (Kd.Z (Kd.int .u8) 5 w41 w.heap.size (fun k_ => True) (.slice (some ⟨go13, 0, none⟩) y114.length co19) y114) := ⟨by rw [← hq_]; exact (by (with_reducible repeat (first | apply Kd.cK_ | apply Kd.cL_ | apply Kd.cX_)); exact HO_8.out)⟩; have n5_ : Aside0 (Below w.heap.size w w41) := ⟨by rw [← hq_]; exact (bz HB.out)⟩; clear HO118 HO121 HO124 HO_5 HO_8 HB hq_; have HO118 := n0_; have HO121 := n1_; have HO124 := n2_; have HO_5 := n3_; have HO_8 := n4_; have HB := n5_; clear n0_ n1_ n2_ n3_ n4_ n5_))))
        (try simp only [Act.put, lsa_, ls0_, ls1_])
        have H := HC36.out
        clear HC36
        by_cases c45 : t125 = true
        rotate_left
        ·replace c45 := Bool.eq_false_iff.mpr c45
         subst c45
         have H1 : (some false) = some r := by rw [if_neg (show ¬ (false = true) by decide)] at H; exact H
         clear H
         have H := H1
         clear H1
         obtain rfl := Option.some.inj H
         go_wp2
         go_ret
         exact ⟨by first | rfl | (simp [*, aw_, av_] <;> rfl), bz HB.out⟩
        subst c45
        have H1 : ((some (([] : List (S43)) : List (S43))).bind fun y126 => (if 0 ≤ (wrap64 (x11_1 - 2)) then (if (wrap64 (x11_1 - 2)) ≤ (t102.length : Int) then ((some (t102.take ((wrap64 (x11_1 - 2)) : Int).toNat : List (S43))).bind fun y129 => (if y126.length + y129.length < 2932031007402 then ((some (y126 ++ y129 : List (S43))).bind fun y133 => (if 0 ≤ (wrap64 (x11_1 - 1)) then (if (wrap64 (x11_1 - 1)) ≤ (t102.length : Int) then ((some (t102.drop ((wrap64 (x11_1 - 1)) : Int).toNat : List (S43))).bind fun y136 => (if y133.length + y136.length < 2932031007402 then ((bq_.f kj26 t119 (y133 ++ y136)).bind fun t143 => (some t143)) else (none))) else (none)) else (none))) else (none))) else (none)) else (none))) = some r := by rw [if_pos rfl] at H; exact H
        clear H
        have H := H1
        clear H1
        obtain ⟨y126, hy126⟩ : ∃ y_ : List (S43), y_ = (([] : List (S43))) := ⟨_, rfl⟩
        replace H : (if 0 ≤ (wrap64 (x11_1 - 2)) then (if (wrap64 (x11_1 - 2)) ≤ (t102.length : Int) then ((some (t102.take ((wrap64 (x11_1 - 2)) : Int).toNat : List (S43))).bind fun y129 => (if y126.length + y129.length < 2932031007402 then ((some (y126 ++ y129 : List (S43))).bind fun y133 => (if 0 ≤ (wrap64 (x11_1 - 1)) then (if (wrap64 (x11_1 - 1)) ≤ (t102.length : Int) then ((some (t102.drop ((wrap64 (x11_1 - 1)) : Int).toNat : List (S43))).bind fun y136 => (if y133.length + y136.length < 2932031007402 then ((bq_.f kj26 t119 (y133 ++ y136)).bind fun t143 => (some t143)) else (none))) else (none)) else (none))) else (none))) else (none)) else (none)) = some r := by first | (rw [hy126]; with_reducible exact H) | (have H2_ := (Option.bind_some _ _).symm.trans H; rw [hy126]; with_reducible exact H2_) | (have H2_ := (Option.bind_some _ _).symm.trans H; with_reducible exact H2_) | with_reducible exact H | (rw [hy126]; exact H) | exact H
        have Ny126 := Aside0.mk hy126
        clear hy126
        obtain ⟨ji46, hji46⟩ : ∃ j_ : Int, (wrap64 (x11_1 - 2)) = j_ := ⟨_, rfl⟩
        replace H : (if 0 ≤ (ji46) then (if (ji46) ≤ (t102.length : Int) then ((some (t102.take ((ji46) : Int).toNat : List (S43))).bind fun y129 => (if y126.length + y129.length < 2932031007402 then ((some (y126 ++ y129 : List (S43))).bind fun y133 => (if 0 ≤ (wrap64 (x11_1 - 1)) then (if (wrap64 (x11_1 - 1)) ≤ (t102.length : Int) then ((some (t102.drop ((wrap64 (x11_1 - 1)) : Int).toNat : List (S43))).bind fun y136 => (if y133.length + y136.length < 2932031007402 then ((bq_.f kj26 t119 (y133 ++ y136)).bind fun t143 => (some t143)) else (none))) else (none)) else (none))) else (none))) else (none)) else (none)) = some r := by first | (rw [hji46] at H; exact H) | (simp only [hji46] at H ⊢; exact H)
        have hji46w : (IntKind.i64.wrap (x11_1 - 2)) = ji46 := (i64_w _).trans hji46
        by_cases c47 : 0 ≤ (ji46)
        rotate_left
        ·rw [if_neg c47] at H
         exact absurd H (by simp)
        rw [if_pos c47] at H
        have c47b0 := eq_true c47
        have c47b1 : decide (0 ≤ (ji46)) = true := decide_eq_true c47
        clear c47
        by_cases c48 : (ji46) ≤ (t102.length : Int)
        rotate_left
        ·rw [if_neg c48] at H
         exact absurd H (by simp)
        rw [if_pos c48] at H
        have c48b0 := eq_true c48
        have c48b1 : decide ((ji46) ≤ (t102.length : Int)) = true := decide_eq_true c48
        clear c48
        obtain ⟨y129, hy129⟩ : ∃ y_ : List (S43), y_ = (t102.take ((ji46) : Int).toNat) := ⟨_, rfl⟩
        replace H : (if y126.length + y129.length < 2932031007402 then ((some (y126 ++ y129 : List (S43))).bind fun y133 => (if 0 ≤ (wrap64 (x11_1 - 1)) then (if (wrap64 (x11_1 - 1)) ≤ (t102.length : Int) then ((some (t102.drop ((wrap64 (x11_1 - 1)) : Int).toNat : List (S43))).bind fun y136 => (if y133.length + y136.length < 2932031007402 then ((bq_.f kj26 t119 (y133 ++ y136)).bind fun t143 => (some t143)) else (none))) else (none)) else (none))) else (none)) = some r := by first | (rw [hy129]; with_reducible exact H) | (have H2_ := (Option.bind_some _ _).symm.trans H; rw [hy129]; with_reducible exact H2_) | (have H2_ := (Option.bind_some _ _).symm.trans H; with_reducible exact H2_) | with_reducible exact H | (rw [hy129]; exact H) | exact H
        have Ny129 := Aside0.mk hy129
        clear hy129
        by_cases c49 : y126.length + y129.length < 2932031007402
        rotate_left
        ·rw [if_neg c49] at H
         exact absurd H (by simp)
        rw [if_pos c49] at H
        have LMc49 := Aside0.mk c49
        clear c49
        obtain ⟨y133, hy133⟩ : ∃ y_ : List (S43), y_ = (y126 ++ y129) := ⟨_, rfl⟩
        replace H : (if 0 ≤ (wrap64 (x11_1 - 1)) then (if (wrap64 (x11_1 - 1)) ≤ (t102.length : Int) then ((some (t102.drop ((wrap64 (x11_1 - 1)) : Int).toNat : List (S43))).bind fun y136 => (if y133.length + y136.length < 2932031007402 then ((bq_.f kj26 t119 (y133 ++ y136)).bind fun t143 => (some t143)) else (none))) else (none)) else (none)) = some r := by first | (rw [hy133]; with_reducible exact H) | (have H2_ := (Option.bind_some _ _).symm.trans H; rw [hy133]; with_reducible exact H2_) | (have H2_ := (Option.bind_some _ _).symm.trans H; with_reducible exact H2_) | with_reducible exact H | (rw [hy133]; exact H) | exact H
        have Ny133 := Aside0.mk hy133
        clear hy133
        obtain ⟨ji50, hji50⟩ : ∃ j_ : Int, (wrap64 (x11_1 - 1)) = j_ := ⟨_, rfl⟩
        replace H : (if 0 ≤ (ji50) then (if (ji50) ≤ (t102.length : Int) then ((some (t102.drop ((ji50) : Int).toNat : List (S43))).bind fun y136 => (if y133.length + y136.length < 2932031007402 then ((bq_.f kj26 t119 (y133 ++ y136)).bind fun t143 => (some t143)) else (none))) else (none)) else (none)) = some r := by first | (rw [hji50] at H; exact H) | (simp only [hji50] at H ⊢; exact H)
        have hji50w : (IntKind.i64.wrap (x11_1 - 1)) = ji50 := (i64_w _).trans hji50
        by_cases c51 : 0 ≤ (ji50)
        rotate_left
        ·rw [if_neg c51] at H
         exact absurd H (by simp)
        rw [if_pos c51] at H
        have c51b0 := eq_true c51
        have c51b1 : decide (0 ≤ (ji50)) = true := decide_eq_true c51
        clear c51
        by_cases c52 : (ji50) ≤ (t102.length : Int)
        rotate_left
        ·rw [if_neg c52] at H
         exact absurd H (by simp)
        rw [if_pos c52] at H
        have c52b0 := eq_true c52
        have c52b1 : decide ((ji50) ≤ (t102.length : Int)) = true := decide_eq_true c52
        clear c52
        obtain ⟨y136, hy136⟩ : ∃ y_ : List (S43), y_ = (t102.drop ((ji50) : Int).toNat) := ⟨_, rfl⟩
        replace H : (if y133.length + y136.length < 2932031007402 then ((bq_.f kj26 t119 (y133 ++ y136)).bind fun t143 => (some t143)) else (none)) = some r := by first | (rw [hy136]; with_reducible exact H) | (have H2_ := (Option.bind_some _ _).symm.trans H; rw [hy136]; with_reducible exact H2_) | (have H2_ := (Option.bind_some _ _).symm.trans H; with_reducible exact H2_) | with_reducible exact H | (rw [hy136]; exact H) | exact H
        have Ny136 := Aside0.mk hy136
        clear hy136
        by_cases c53 : y133.length + y136.length < 2932031007402
        rotate_left
        ·rw [if_neg c53] at H
         exact absurd H (by simp)
        rw [if_pos c53] at H
        have LMc53 := Aside0.mk c53
        clear c53
        obtain ⟨y140, hy140⟩ : ∃ y_ : List (S43), y_ = (y133 ++ y136) := ⟨_, rfl⟩
        replace H : ((bq_.f kj26 t119 y140).bind fun t143 => (some t143)) = some r := by first | (rw [hy140]; with_reducible exact H) | (have H2_ := (Option.bind_some _ _).symm.trans H; rw [hy140]; with_reducible exact H2_) | (have H2_ := (Option.bind_some _ _).symm.trans H; with_reducible exact H2_) | with_reducible exact H | (rw [hy140]; exact H) | exact H
        have Ny140 := Aside0.mk hy140
        clear hy140
        replace H := Option.bind_eq_some_iff.mp H
        obtain ⟨t143, A540, H⟩ := H
        (try dsimp only at H)
        have A54 := Aside0.mk A540
        clear A540
        obtain rfl := Option.some.inj H
        try go_wp2
        (try (rw [cS_ w41]; generalize hq_ : World.drewN w41 _ = w41; have n0_ : Aside0 (Kd.R (Kd.int .i64) 2 w41 w.heap.size (fun k_ => (True ∧ some k_ ≠ (.slice Ao44 y122.length co44 : Value).ownBlock)) (.slice Ao43 t116.length co43) t116) := ⟨by rw [← hq_]; exact (rz HO118.out)⟩; have n1_ : Aside0 (Kd.R k43 43 w41 w.heap.size (fun k_ => (True ∧ some k_ ≠ (.slice Ao15 t102.length co15 : Value).ownBlock)) v120 t119) := ⟨by rw [← hq_]; exact (rz HO121.out)⟩; have n2_ : Aside0 (Kd.R (Kd.int .i64) 2 w41 w.heap.size (fun k_ => (True ∧ some k_ ≠ (.slice Ao43 t116.length co43 : Value).ownBlock)) (.slice Ao44 y122.length co44) y122) := ⟨by rw [← hq_]; exact (rz HO124.out)⟩; have n3_ : Aside0 (Kd.R k43 43 w41 w.heap.size (fun k_ => (True ∧ some k_ ≠ (v120 : Value).ownBlock)) (.slice Ao15 t102.length co15) t102) := ⟨by rw [← hq_]; exact (rz HO_5.out)⟩; have n4_ : Aside0 (Kd.Z (Kd.int .u8) 5 w41 w.heap.size (fun k_ => True) (.slice (some ⟨go13, 0, none⟩) y114.length co19) y114) := ⟨by rw [← hq_]; exact (by (with_reducible repeat (first | apply Kd.cK_ | apply Kd.cL_ | apply Kd.cX_)); exact HO_8.out)⟩; have n5_ : Aside0 (Below w.heap.size w w41) := ⟨by rw [← hq_]; exact (bz HB.out)⟩; clear HO118 HO121 HO124 HO_5 HO_8 HB hq_; have HO118 := n0_; have HO121 := n1_; have HO124 := n2_; have HO_5 := n3_; have HO_8 := n4_; have HB := n5_; clear n0_ n1_ n2_ n3_ n4_ n5_))
        have n0_ := Aside0.mk (Kd.dd_ HO_5.out)
        have n1_ := Aside0.mk (Kd.cX_ HO_8.out)
        have n2_ := Aside0.mk (Kd.dd_ HO118.out)
        have n3_ := Aside0.mk (Kd.dd_ HO121.out)
        have n4_ := Aside0.mk (Kd.dd_ HO124.out)
        have n5_ := Aside0.mk (bD_ HB.out)
        clear HO_5
        clear HO_8
        clear HO118
        clear HO121
        clear HO124
        clear HB
        have HO_5 := n0_
        have HO_8 := n1_
        have HO118 := n2_
        have HO121 := n3_
        have HO124 := n4_
        have HB := n5_
        clear n0_ n1_ n2_ n3_ n4_ n5_
        have q56 : ((ji46) : Int) ≤ ((t102.length : Int) : Int) := of_decide_eq_true (by assumption)
        obtain ⟨i056, hi056, _, hsz56, _⟩ := info_parts cs_
        have hroom56 : t102.length ≤ co15 := (Kd.aE_ HO_5.out).2.1
        have hC56 : Kd.C k43 _ Ao15 t102.length t102 := (Kd.aE_ HO_5.out).2.2
        have hcut56 := cut_to (P := Tryd.prog) 27 43 .i64 Tryd.underlying27 hi056 Ao15 t102.length co15 (ji46) (of_decide_eq_true (by assumption)) q56 hroom56
        have hr56 := Kd.C_take (m := ((ji46) : Int).toNat) hC56 (by omega)
        have hy56 : y129.length = ((ji46) : Int).toNat := (by rw [Ny129.out, List.length_take]; omega)
        rw [← Ny129.out] at hr56
        rw [← hy56] at hcut56
        have HR132 := Aside0.mk hr56
        have HC132 := Aside0.mk (show y129.length ≤ co15 from by omega)
        clear hr56 hC56 hroom56 hi056 hsz56
        have KY56 := Aside0.mk hy56
        clear hy56
        have KL56 := Aside0.mk (show ((ji46) : Int).toNat ≤ t102.length from by omega)
        replace q56 := eq_true q56
        have q57 : ((ji50) : Int) ≤ ((t102.length : Int) : Int) := of_decide_eq_true (by assumption)
        obtain ⟨i057, hi057, _, hsz57, _⟩ := info_parts cs_
        have hroom57 : t102.length ≤ co15 := (Kd.aE_ HO_5.out).2.1
        have hC57 : Kd.C k43 _ Ao15 t102.length t102 := (Kd.aE_ HO_5.out).2.2
        have q057 : (0 : Int) ≤ ((ji50) : Int) := of_decide_eq_true (by assumption)
        have hcut57 := cut_from (P := Tryd.prog) 27 43 .i64 Tryd.underlying27 hi057 3 hsz57 Ao15 t102.length co15 (ji50) q057 q57
        have hr57 := Kd.C_drop (m := ((ji50) : Int).toNat) (c := co15) hC57 (by omega) hroom57
        obtain ⟨A57, hA57⟩ : ∃ A1, A1 = (if co15 = ((ji50) : Int).toNat then Ao15 else (Ao15 : Option Addr).map (·.add (((ji50) : Int).toNat * 3))) := ⟨_, rfl⟩
        obtain ⟨c57, hc57⟩ : ∃ c1, c1 = co15 - ((ji50) : Int).toNat := ⟨_, rfl⟩
        have hy57 : y136.length = t102.length - ((ji50) : Int).toNat := (by rw [Ny136.out, List.length_drop] <;> omega)
        rw [show (t102).drop ((ji50) : Int).toNat = y136 from Ny136.out.symm] at hr57
        replace hr57 : Kd.C k43 _ A57 y136.length y136 := (by rw [hA57]; exact hr57)
        rw [← hy57, ← hA57, ← hc57] at hcut57
        have HR139 := Aside0.mk hr57
        have HC139 := Aside0.mk (show y136.length ≤ c57 from by rw [hy57, hc57]; exact Nat.sub_le_sub_right hroom57 _)
        clear hr57 hC57 hroom57 hi057 hsz57 hc57
        have KY57 := Aside0.mk hy57
        have KA57 := Aside0.mk hA57
        clear hy57 hA57
        have KL57 := Aside0.mk (show ((ji50) : Int).toNat ≤ t102.length from by omega)
        replace q57 := eq_true q57
        refine cW_ (n := 12) (S := fun w' => True) (ds := []) #[f_,f_,f_,f_,f_,f_,f_,f_,f_,f_,f_,f_] (by kernel_rfl) rfl rfl trivial (fun hHeld => ?_); refine ce_ ao_.tab21 ao_.bits21 (fun HT_ HW_ => ?_)
        generalize w41.drew = w55 at HO_5 HO_8 HO118 HO121 HO124 HB HR132 HR139 hHeld ⊢
        refine pu 1 82 #[f_,t_,f_,f_,f_,f_,f_,f_,f_,f_,f_,f_] HT_ ?_
        refine pu 2 83 #[f_,t_,t_,f_,f_,f_,f_,f_,f_,f_,f_,f_] HT_ ?_
        refine pu 3 84 #[f_,t_,t_,t_,f_,f_,f_,f_,f_,f_,f_,f_] HT_ ?_
        refine pu 4 85 #[f_,t_,t_,t_,t_,f_,f_,f_,f_,f_,f_,f_] HT_ ?_
        refine pu 6 87 #[f_,t_,t_,t_,t_,f_,t_,f_,f_,f_,f_,f_] HT_ ?_
        refine pu 7 88 #[f_,t_,t_,t_,t_,f_,t_,t_,f_,f_,f_,f_] HT_ ?_
        refine pu 8 89 #[f_,t_,t_,t_,t_,f_,t_,t_,t_,f_,f_,f_] HT_ ?_
        refine pu 9 90 #[f_,t_,t_,t_,t_,f_,t_,t_,t_,t_,f_,f_] HT_ ?_
        refine one_ (i := 0) (N := some 81) #[t_,t_,t_,t_,t_,f_,t_,t_,t_,t_,f_,f_] rfl rfl (bZ_ HT_.out (by kernel_rfl)) (by decide) (fun K hK => ?_)
        refine Kd.R_lit_step k43 _ 43 ?hg (N := 81) ?hd (xs := ([] : List (S43))) (inner := []) (ok := fun _ => True) (okp := fun _ => True) ?hr ?hp (fun _ hk => hk) trivial (Below.refl _ _) (Nat.le_refl _) (by simp) ?_; (case hd => rfl); (case hg => rfl); (case hr => (go_simp; try rfl)); (case hp => exact (Reps.none _ _))
        intro v127 w58 ho59 hb hg_ hnew_
        clear hg_ hnew_
        (first | rw [← Ny126.out] at ho59 | (simp only [Int.reduceToNat] at ho59; rw [← Ny126.out] at ho59))
        have n0_ := Aside0.mk (Kd.aW_ (rz HO_5.out) (Kd.bs_ ho59) hb)
        have n1_ := Aside0.mk (Kd.Z_below (by (with_reducible repeat (first | apply Kd.cK_ | apply Kd.cL_ | apply Kd.cX_)); exact HO_8.out) hb)
        have n2_ := Aside0.mk (Kd.bI_ (rz HO118.out) hb)
        have n3_ := Aside0.mk (Kd.aW_ (rz HO121.out) (Kd.bs_ ho59) hb)
        have n4_ := Aside0.mk (Kd.bI_ (rz HO124.out) hb)
        have n5_ := Aside0.mk (Kd.bw_ (Kd.bE_ (Kd.bE_ ho59 (Kd.R_lt (rz HO_5.out))) (Kd.R_lt (rz HO121.out))) (ak_ (bz HB.out)))
        have n6_ := Aside0.mk (Kd.bW_ (by repeat (first | (with_reducible exact HR132.out) | (with_reducible first | refine Kd.C_alloc ?_ _ | refine Kd.C_drewN ?_ _ | refine Kd.C_drew ?_) | exact HR132.out)) hb)
        have n7_ := Aside0.mk (Kd.bW_ (by repeat (first | (with_reducible exact HR139.out) | (with_reducible first | refine Kd.C_alloc ?_ _ | refine Kd.C_drewN ?_ _ | refine Kd.C_drew ?_) | exact HR139.out)) hb)
        have n8_ := Aside0.mk (ah_ (bz HB.out) hb)
        clear HO_5
        clear HO_8
        clear HO118
        clear HO121
        clear HO124
        clear HR132
        clear HR139
        clear HB
        have HO_5 := n0_
        have HO_8 := n1_
        have HO118 := n2_
        have HO121 := n3_
        have HO124 := n4_
        have HO128 := n5_
        have HR132 := n6_
        have HR139 := n7_
        have HB := n8_
        clear n0_ n1_ n2_ n3_ n4_ n5_ n6_ n7_ n8_
        clear hb ho59
        refine hK.out _ _ trivial (fun hHeld => ?_)
        clear hK K
        refine norm_ (a' := ?_) ?_ ?_
        rotate_left
        ·show Act.put _ (some 81) _ = _
         simp only [Act.put, lsa_, ls0_, ls1_, i64_w, i32_w]
         rfl
        refine one_ (i := 5) (N := some 86) #[t_,t_,t_,t_,t_,t_,t_,t_,t_,t_,f_,f_] rfl rfl (bZ_ HT_.out (by kernel_rfl)) (by decide) (fun K hK => ?_)
        refine Kd.R_append_rows_step k43 (w0 := w) w.heap.size (by rfl) (.tmp 81) (.tmp 85) 27 43 (.agg #[(.string ⟨#[]⟩), (.string ⟨#[]⟩), (.string ⟨#[]⟩)]) 48 rfl Tryd.underlying27 cs_ rfl (by decide) (by omega) v127 y126 y129 _ _ _ (fun k_ => some k_ ≠ (.slice Ao15 t102.length co15 : Value).ownBlock ∧ some k_ ≠ (v120 : Value).ownBlock) (fun _ => False) rfl rfl ?aO ?aR (fun _ _ h => h) (fun _ h => h.elim) ?aF ?aB ?aS ?aL ?_
        (case aR => repeat (first | exact (by repeat (first | (with_reducible exact HR132.out) | (with_reducible first | refine Kd.C_alloc ?_ _ | refine Kd.C_drewN ?_ _ | refine Kd.C_drew ?_) | exact HR132.out)) | (with_reducible first | refine Kd.C_alloc ?_ _ | refine Kd.C_drewN ?_ _ | refine Kd.C_drew ?_)))
        (case aB => exact (bz HB.out))
        (case aF => exact (fun k_ hk => ⟨Kd.fresh' (Kd.R_lt (rz HO_5.out)) k_ hk, Kd.fresh' (Kd.R_lt (rz HO121.out)) k_ hk⟩))
        (case aO => exact (rz (Kd.aG_ HO128.out (fun _ hk => ⟨hk.1.2, hk.2⟩))))
        (case aS => exact (ak_ (bz HB.out)))
        (case aL => have := LMc49.out; omega)
        intro v134 w60 ho hb hg hat
        rw [← Ny133.out] at ho
        have n0_ := Aside0.mk (Kd.R_after (ok := (fun k_ => some k_ ≠ (v120 : Value).ownBlock)) (rz (Kd.aG_ HO_5.out (fun _ hk => ⟨hk.1.2, hk.2⟩))) hg hat)
        have n1_ := Aside0.mk (Kd.Z_over' (by (with_reducible repeat (first | apply Kd.cK_ | apply Kd.cL_ | apply Kd.cX_)); exact HO_8.out) (Kd.R_typed (rz HO128.out)) (by decide) hg)
        have n2_ := Aside0.mk (Kd.R_over' (rz HO118.out) (Kd.R_typed (rz HO128.out)) (by decide) hg)
        have n3_ := Aside0.mk (Kd.R_after (ok := (fun k_ => some k_ ≠ (.slice Ao15 t102.length co15 : Value).ownBlock)) (rz (Kd.aG_ HO121.out (fun _ hk => ⟨hk.1.2, hk.2⟩))) hg hat)
        have n4_ := Aside0.mk (Kd.R_over' (rz HO124.out) (Kd.R_typed (rz HO128.out)) (by decide) hg)
        have n5_ := Aside0.mk (hb)
        have n6_ := Aside0.mk ((show Kd.C k43 w60 Ao15 y129.length y129 from by rw [Ny129.out]; exact Kd.C_take (m := ((ji46) : Int).toNat) ((Kd.aE_ (Kd.R_after (ok := (fun k_ => some k_ ≠ (v120 : Value).ownBlock)) (rz (Kd.aG_ HO_5.out (fun _ hk => ⟨hk.1.2, hk.2⟩))) hg hat)).2.2) KL56.out))
        have n7_ := Aside0.mk ((show Kd.C k43 w60 A57 y136.length y136 from by rw [Ny136.out, KA57.out]; exact Kd.C_drop (m := ((ji50) : Int).toNat) (c := co15) ((Kd.aE_ (Kd.R_after (ok := (fun k_ => some k_ ≠ (v120 : Value).ownBlock)) (rz (Kd.aG_ HO_5.out (fun _ hk => ⟨hk.1.2, hk.2⟩))) hg hat)).2.2) KL57.out ((Kd.aE_ (Kd.R_after (ok := (fun k_ => some k_ ≠ (v120 : Value).ownBlock)) (rz (Kd.aG_ HO_5.out (fun _ hk => ⟨hk.1.2, hk.2⟩))) hg hat)).2.1)))
        have n8_ := Aside0.mk (ho)
        clear HO_5
        clear HO_8
        clear HO118
        clear HO121
        clear HO124
        clear HB
        clear HR132
        clear HR139
        clear HO128
        have HO_5 := n0_
        have HO_8 := n1_
        have HO118 := n2_
        have HO121 := n3_
        have HO124 := n4_
        have HB := n5_
        have HR132 := n6_
        have HR139 := n7_
        have HO135 := n8_
        clear n0_ n1_ n2_ n3_ n4_ n5_ n6_ n7_ n8_
        clear ho hb hg hat
        refine hK.out _ _ trivial (fun hHeld => ?_)
        clear hK K
        refine norm_ (a' := ?_) ?_ ?_
        rotate_left
        ·show Act.put _ (some 86) _ = _
         simp only [Act.put, lsa_, ls0_, ls1_, i64_w, i32_w]
         rfl
        refine one_ (i := 10) (N := some 91) #[t_,t_,t_,t_,t_,t_,t_,t_,t_,t_,t_,f_] rfl rfl (bZ_ HT_.out (by kernel_rfl)) (by decide) (fun K hK => ?_)
        refine Kd.R_append_rows_step k43 (w0 := w) w.heap.size (by rfl) (.tmp 86) (.tmp 90) 27 43 (.agg #[(.string ⟨#[]⟩), (.string ⟨#[]⟩), (.string ⟨#[]⟩)]) 48 rfl Tryd.underlying27 cs_ rfl (by decide) (by omega) v134 y133 y136 _ _ _ (fun k_ => some k_ ≠ (.slice Ao15 t102.length co15 : Value).ownBlock ∧ some k_ ≠ (v120 : Value).ownBlock) (fun _ => False) rfl rfl ?aO ?aR (fun _ _ h => h) (fun _ h => h.elim) ?aF ?aB ?aS ?aL ?_
        (case aR => repeat (first | exact (by repeat (first | (with_reducible exact HR139.out) | (with_reducible first | refine Kd.C_alloc ?_ _ | refine Kd.C_drewN ?_ _ | refine Kd.C_drew ?_) | exact HR139.out)) | (with_reducible first | refine Kd.C_alloc ?_ _ | refine Kd.C_drewN ?_ _ | refine Kd.C_drew ?_)))
        (case aB => exact (bz HB.out))
        (case aF => exact (fun k_ hk => ⟨Kd.fresh' (Kd.R_lt (rz HO_5.out)) k_ hk, Kd.fresh' (Kd.R_lt (rz HO121.out)) k_ hk⟩))
        (case aO => exact (rz HO135.out))
        (case aS => exact (ak_ (bz HB.out)))
        (case aL => have := LMc53.out; omega)
        intro v141 w61 ho hb hg hat
        rw [← Ny140.out] at ho
        have n0_ := Aside0.mk (Kd.R_after (ok := (fun k_ => some k_ ≠ (v120 : Value).ownBlock)) (rz HO_5.out) hg hat)
        have n1_ := Aside0.mk (Kd.Z_over' (by (with_reducible repeat (first | apply Kd.cK_ | apply Kd.cL_ | apply Kd.cX_)); exact HO_8.out) (Kd.R_typed (rz HO135.out)) (by decide) hg)
        have n2_ := Aside0.mk (Kd.R_over' (rz HO118.out) (Kd.R_typed (rz HO135.out)) (by decide) hg)
        have n3_ := Aside0.mk (Kd.R_after (ok := (fun k_ => some k_ ≠ (.slice Ao15 t102.length co15 : Value).ownBlock)) (rz HO121.out) hg hat)
        have n4_ := Aside0.mk (Kd.R_over' (rz HO124.out) (Kd.R_typed (rz HO135.out)) (by decide) hg)
        have n5_ := Aside0.mk (hb)
        have n6_ := Aside0.mk ((show Kd.C k43 w61 Ao15 y129.length y129 from by rw [Ny129.out]; exact Kd.C_take (m := ((ji46) : Int).toNat) ((Kd.aE_ (Kd.R_after (ok := (fun k_ => some k_ ≠ (v120 : Value).ownBlock)) (rz HO_5.out) hg hat)).2.2) KL56.out))
        have n7_ := Aside0.mk ((show Kd.C k43 w61 A57 y136.length y136 from by rw [Ny136.out, KA57.out]; exact Kd.C_drop (m := ((ji50) : Int).toNat) (c := co15) ((Kd.aE_ (Kd.R_after (ok := (fun k_ => some k_ ≠ (v120 : Value).ownBlock)) (rz HO_5.out) hg hat)).2.2) KL57.out ((Kd.aE_ (Kd.R_after (ok := (fun k_ => some k_ ≠ (v120 : Value).ownBlock)) (rz HO_5.out) hg hat)).2.1)))
        have n8_ := Aside0.mk (ho)
        clear HO_5
        clear HO_8
        clear HO118
        clear HO121
        clear HO124
        clear HB
        clear HR132
        clear HR139
        clear HO135
        have HO_5 := n0_
        have HO_8 := n1_
        have HO118 := n2_
        have HO121 := n3_
        have HO124 := n4_
        have HB := n5_
        have HR132 := n6_
        have HR139 := n7_
        have HO142 := n8_
        clear n0_ n1_ n2_ n3_ n4_ n5_ n6_ n7_ n8_
        clear ho hb hg hat
        refine hK.out _ _ trivial (fun hHeld => ?_)
        clear hK K
        refine norm_ (a' := ?_) ?_ ?_
        rotate_left
        ·show Act.put _ (some 91) _ = _
         simp only [Act.put, lsa_, ls0_, ls1_, i64_w, i32_w]
         rfl
        refine pu 11 15 #[t_,t_,t_,t_,t_,t_,t_,t_,t_,t_,t_,t_] HT_ ?_
        refine done_ (cO_ HT_.out (by kernel_rfl)) ?_
        obtain ⟨Ao62, co62, eo62⟩ := Kd.bL_ HO121.out
        subst eo62
        obtain ⟨Ao63, co63, eo63⟩ := Kd.bL_ HO142.out
        subst eo63
        try go_wp2_with (first | ((with_reducible refine al_ (f := 25) rfl ?_); refine bf_ (some 94) rfl rfl Tryd.func25 (by kernel_rfl) rfl #[.slice Ao62 t119.length co62, .slice Ao63 y140.length co63] rfl (by first | rfl | (simp only [lma_, lmc_, lmn_]; first | done | rfl)) ?_; (with_reducible refine (bq_.calls kj26 _ _ t119 _ _ y140 t143 _ ?side1 ?side2 ?side3 ?side4 A54.out).mono ?_); (case side1 => exact cz (Kd.aE_ HO121.out).2.2); (case side2 => exact (Kd.aE_ HO121.out).2.1); (case side3 => exact cz (Kd.aE_ HO142.out).2.2); (case side4 => exact (Kd.aE_ HO142.out).2.1); rintro e w' ⟨rfl, ⟨nd, rfl⟩⟩; refine ⟨_, rfl, ?_⟩; (try (rw [cS_ w61]; generalize hq_ : World.drewN w61 _ = w61; have n0_ : Aside0 (Kd.R (Kd.int .i64) 2 w61 w.heap.size (fun k_ => (True ∧ some k_ ≠ (.slice Ao44 y122.length co44 : Value).ownBlock)) (.slice Ao43 t116.length co43) t116) := ⟨by rw [← hq_]; exact (rz HO118.out)⟩; have n1_ : Aside0 (Kd.R k43 43 w61 w.heap.size (fun k_ => (some k_ ≠ (.slice Ao15 t102.length co15 : Value).ownBlock ∧ some k_ ≠ (.slice Ao63 y140.length co63 : Value).ownBlock)) (.slice Ao62 t119.length co62) t119) := ⟨by rw [← hq_]; exact (rz HO121.out)⟩; have n2_ : Aside0 (Kd.R (Kd.int .i64) 2 w61 w.heap.size (fun k_ => (True ∧ some k_ ≠ (.slice Ao43 t116.length co43 : Value).ownBlock)) (.slice Ao44 y122.length co44) y122) := ⟨by rw [← hq_]; exact (rz HO124.out)⟩; have n3_ : Aside0 (Kd.R k43 43 w61 w.heap.size (fun k_ => (some k_ ≠ (.slice Ao15 t102.length co15 : Value).ownBlock ∧ some k_ ≠ (.slice Ao62 t119.length co62 : Value).ownBlock)) (.slice Ao63 y140.length co63) y140) := ⟨by rw [← hq_]; exact (rz HO142.out)⟩; have n4_ : Aside0 (Kd.R k43 43 w61 w.heap.size (fun k_ => (some k_ ≠ (.slice Ao62 t119.length co62 : Value).ownBlock ∧ some k_ ≠ (.slice Ao63 y140.length co63 : Value).ownBlock)) (.slice Ao15 t102.length co15) t102) := ⟨by rw [← hq_]; exact (rz HO_5.out)⟩; have n5_ : Aside0 (Kd.Z (Kd.int .u8) 5 w61 w.heap.size (fun k_ => True) (.slice (some ⟨go13, 0, none⟩) y114.length co19) y114) := ⟨by rw [← hq_]; exact (by (with_reducible repeat (first | apply Kd.cK_ | apply Kd.cL_ | apply Kd.cX_)); exact HO_8.out)⟩; have n6_ : Aside0 (Below w.heap.size w w61) := ⟨by rw [← hq_]; exact (bz HB.out)⟩; have n7_ : Aside0 (Kd.C k43 w61 Ao15 y129.length y129) := ⟨by rw [← hq_]; exact (by repeat (first | (with_reducible exact HR132.out) | (with_reducible first | refine Kd.C_alloc ?_ _ | refine Kd.C_drewN ?_ _ | refine Kd.C_drew ?_) | exact HR132.out))⟩; have n8_ : Aside0 (Kd.C k43 w61 A57 y136.length y136) := ⟨by rw [← hq_]; exact (by repeat (first | (with_reducible exact HR139.out) | (with_reducible first | refine Kd.C_alloc ?_ _ | refine Kd.C_drewN ?_ _ | refine Kd.C_drew ?_) | exact HR139.out))⟩; clear HO118 HO121 HO124 HO142 HO_5 HO_8 HB HR132 HR139 hq_; have HO118 := n0_; have HO121 := n1_; have HO124 := n2_; have HO142 := n3_; have HO_5 := n4_; have HO_8 := n5_; have HB := n6_; have HR132 := n7_; have HR139 := n8_; clear n0_ n1_ n2_ n3_ n4_ n5_ n6_ n7_ n8_))))
        go_ret
        exact ⟨by first | rfl | (simp [aw_, av_] <;> rfl) | (simp only [← hji46, ← hji50]; first | rfl | (simp [aw_, av_] <;> rfl)) | (simp [*, aw_, av_] <;> rfl), bz HB.out⟩
       subst c32
       have H1 : (some true) = some r := by rw [if_pos rfl] at H; exact H
       clear H
       have H := H1
       clear H1
       obtain rfl := Option.some.inj H
       go_wp2
       go_ret
       exact ⟨by first | rfl | (simp [*, aw_, av_] <;> rfl), bz HB.out⟩
    rw [if_pos c22] at H
    have c22b0 : decide (x12_1 < t110) = true := decide_eq_true c22
    clear c22
    by_cases c23 : 0 ≤ x12_1
    rotate_left
    ·rw [if_neg c23] at H
     exact absurd H (by simp)
    rw [if_pos c23] at H
    have c23b0 : decide (0 ≤ x12_1) = true := decide_eq_true c23
    clear c23
    by_cases c24 : x12_1 < (t105.size : Int)
    rotate_left
    ·rw [if_neg c24] at H
     exact absurd H (by simp)
    rw [if_pos c24] at H
    have c24b0 : decide (x12_1 < (t105.size : Int)) = true := decide_eq_true c24
    clear c24
    by_cases c26 : (bt t105 x12_1) = 10
    rotate_left
    ·rw [if_neg c26] at H
     have c26b0 : ((bt t105 x12_1) == 10) = false := beq_eq_false_iff_ne.mpr c26
     have c26b1 : ((bt t105 x12_1) != 10) = true := bne_iff_ne.mpr c26
     have H' := Aside0.mk H
     clear H
     have p25 : 0 ≤ (x12_1 : Int) := of_decide_eq_true (by assumption)
     have q25 : x12_1 < (t105.size : Int) := of_decide_eq_true (by assumption)
     have hx25 := bt_at t105 x12_1
     replace p25 := eq_true p25
     replace q25 := eq_true q25
     go_wp2
     (try simp only [← hl8_1])
     go_roundg k1
     case measure => have := HK1.out; omega
     case rel => exact ⟨(x11_1), (wrap64 (x12_1 + 1)), (by first | rfl | (simp; done) | (simp [*]; done)), (by first | rfl | (simp; done) | (simp [*]; done)), H', ⟨by have := HK1.out; omega⟩, ⟨by (try simp only [hl8_1]); (with_reducible repeat (first | apply Kd.R_alloc | apply Kd.R_drewN | apply Kd.dd_)); exact HO_5.out⟩, ⟨by (try simp only [hl8_1]); (with_reducible repeat (first | apply Kd.cK_ | apply Kd.cL_ | apply Kd.cX_)); exact HO_8.out⟩, ⟨bz HB.out⟩⟩
    rw [if_pos c26] at H
    have c26b0 : ((bt t105 x12_1) == 10) = true := beq_iff_eq.mpr c26
    have c26b1 : ((bt t105 x12_1) != 10) = false := bne_eq_false_iff_eq.mpr c26
    clear c26
    have H' := Aside0.mk H
    clear H
    have p25 : 0 ≤ (x12_1 : Int) := of_decide_eq_true (by assumption)
    have q25 : x12_1 < (t105.size : Int) := of_decide_eq_true (by assumption)
    have hx25 := bt_at t105 x12_1
    replace p25 := eq_true p25
    replace q25 := eq_true q25
    go_wp2
    (try simp only [← hl8_1])
    go_roundg k1
    case measure => have := HK1.out; omega
    case rel => exact ⟨(wrap64 (x11_1 + 1)), (wrap64 (x12_1 + 1)), (by first | rfl | (simp; done) | (simp [*]; done)), (by first | rfl | (simp; done) | (simp [*]; done)), H', ⟨by have := HK1.out; omega⟩, ⟨by (try simp only [hl8_1]); (with_reducible repeat (first | apply Kd.R_alloc | apply Kd.R_drewN | apply Kd.dd_)); exact HO_5.out⟩, ⟨by (try simp only [hl8_1]); (with_reducible repeat (first | apply Kd.cK_ | apply Kd.cL_ | apply Kd.cX_)); exact HO_8.out⟩, ⟨bz HB.out⟩⟩
 subst c5
 have H1 : (some true) = some r := by rw [if_pos rfl] at H; exact H
 clear H
 have H := H1
 clear H1
 obtain rfl := Option.some.inj H
 go_wp2
 go_ret
 exact ⟨by first | rfl | (simp [*, aw_, av_] <;> rfl), bz HB.out⟩
def ao_.Pure : Prop := ∀ (x0 : List Int) (x1 : List Int), (x0.length ≤ maxLen ∧ ∀ y0 ∈ x0, (Lit.int .u8 y0).wf = true) → (x1.length ≤ maxLen ∧ ∀ y0 ∈ x1, (Lit.int .u8 y0).wf = true) → ∃ k, ao_.f k x0 x1 = some true
end Go.Proofs.YtjebkmfljcanlaaDoor.Q
namespace Go.Proofs.YtjebkmfljcanlaaDoor.Q
open Go.RowKit Go.Proofs.YtjebkmfljcanlaaDoorW.PrintWords Go.Proofs.YtjebkmfljcanlaaDoorW.PrintLast Go.Proofs.YtjebkmfljcanlaaDoorW.PrintMore
theorem wr64 {x : Int} (h0 : -9223372036854775808 ≤ x) (h1 : x < 9223372036854775808) : wrap64 x = x := by unfold wrap64; omega
theorem wr64s (i : Nat) (h : (i : Int) < 9223372036854775807) : wrap64 ((i : Int) + 1) = ((i + 1 : Nat) : Int) := by rw [wr64 (by omega) (by omega)]; omega
theorem bb_ {α : Type} {g : Nat → Option α} {r : α} (h : Ev (fun k => g (k + 1)) r) : Ev g r := by
 obtain ⟨K, hK⟩ := h
 refine ⟨K + 1, fun k hk => ?_⟩
 obtain ⟨m, rfl⟩ : ∃ m, k = m + 1 := ⟨k - 1, by omega⟩
 exact hK m (by omega)
theorem Ev_t {α : Type} {c : Prop} [Decidable c] {f g : Nat → Option α} {r : α} (h : c) (k : Ev f r) : Ev (fun n => if c then f n else g n) r := by
 obtain ⟨K, hK⟩ := k
 exact ⟨K, fun n hn => (if_pos h).trans (hK n hn)⟩
theorem Ev_f {α : Type} {c : Prop} [Decidable c] {f g : Nat → Option α} {r : α} (h : ¬ c) (k : Ev g r) : Ev (fun n => if c then f n else g n) r := by
 obtain ⟨K, hK⟩ := k
 exact ⟨K, fun n hn => (if_neg h).trans (hK n hn)⟩
theorem Ev_b {α β : Type} {g : Nat → Option α} {f : Nat → α → Option β} {a : α} {r : β} (h : Ev g a) (k : Ev (fun n => f n a) r) : Ev (fun n => (g n).bind (fun x => f n x)) r := Ev.bind h k
theorem Ev_s {α β : Type} {a : α} {f : Nat → α → Option β} {r : β} (k : Ev (fun n => f n a) r) : Ev (fun n => (some a).bind (fun x => f n x)) r := k
theorem Ev_n {α : Type} {a r : α} (h : a = r) : Ev (fun _ => some a) r := ⟨0, fun _ _ => by rw [h]⟩
theorem Ev_c {α : Type} {o : Option α} {r : α} (h : o = some r) : Ev (fun _ => o) r := ⟨0, fun _ _ => h⟩
theorem Ev_at {α : Type} {g : Nat → Option α} {r r' : α} (h : Ev g r) (e : r = r') : Ev g r' := e ▸ h
theorem Ev_two {α β : Type} {g : Nat → Option α} {f : Nat → Option β} {a : α} {b : β} (h : Ev g a) (k : Ev f b) : ∃ K, ∀ n, K ≤ n → g n = some a ∧ f n = some b := by
 obtain ⟨K, hK⟩ := h
 obtain ⟨L, hL⟩ := k
 exact ⟨max K L, fun n hn => ⟨hK n (by omega), hL n (by omega)⟩⟩
theorem Ev_one {α : Type} {g : Nat → Option α} {a b : α} (h : Ev g a) (k : Ev g b) : a = b := by
 obtain ⟨K, hK⟩ := Ev_two h k
 have := hK K (Nat.le_refl _)
 have h2 := this.1.symm.trans this.2
 exact Option.some.inj h2
theorem getD_in {α : Type} (l : List α) (z : α) (i : Nat) (h : i < l.length) : l.getD ((i : Int).toNat) z = l[i] := by simp [List.getD, h]
theorem getD_at {α : Type} (p q : List α) (z x : α) (i : Nat) (h : p.length = i) : (p ++ x :: q).getD ((i : Int).toNat) z = x := by subst h; simp [List.getD]
structure Ordr {κ : Type} (c : κ → κ → Int) : Prop where
 zero : ∀ a b, c a b = 0 ↔ a = b
 anti : ∀ a b, c a b < 0 ↔ 0 < c b a
 trans : ∀ a b d, c a b < 0 → c b d < 0 → c a d < 0
theorem cb_ord : Ordr Go.Lib.compareBytes := by
 constructor
 ·intro a
  induction a with
  | nil => intro b; cases b <;> simp [Go.Lib.compareBytes]
  | cons x a ih =>
   intro b
   cases b with
   | nil => simp [Go.Lib.compareBytes]
   | cons y b =>
    simp only [Go.Lib.compareBytes]
    by_cases h1 : x < y
    rotate_left
    ·by_cases h2 : y < x
     rotate_left
     ·have : x = y := UInt8.le_antisymm (UInt8.not_lt.1 h2) (UInt8.not_lt.1 h1)
      subst this
      simp [h1, ih]
     have : x ≠ y := fun e => by subst e; exact absurd h2 (UInt8.lt_irrefl _)
     simp [h1, h2, this]
    have : x ≠ y := fun e => by subst e; exact absurd h1 (UInt8.lt_irrefl _)
    simp [h1, this]
 ·intro a
  induction a with
  | nil => intro b; cases b <;> simp [Go.Lib.compareBytes]
  | cons x a ih =>
   intro b
   cases b with
   | nil => simp [Go.Lib.compareBytes]
   | cons y b =>
    simp only [Go.Lib.compareBytes]
    by_cases h1 : x < y
    rotate_left
    ·by_cases h2 : y < x
     rotate_left
     ·simp [h1, h2, ih]
     simp [h1, h2]
    have h2 : ¬ y < x := fun h => absurd (UInt8.lt_trans h1 h) (UInt8.lt_irrefl _)
    simp [h1, h2]
 ·intro a
  induction a with
  | nil => intro b d; cases b <;> cases d <;> simp [Go.Lib.compareBytes]
  | cons x a ih =>
   intro b d
   cases b with
   | nil => simp [Go.Lib.compareBytes]
   | cons y b =>
    cases d with
    | nil => simp [Go.Lib.compareBytes]
    | cons z d =>
     simp only [Go.Lib.compareBytes]
     by_cases h1 : x < y
     rotate_left
     ·by_cases h1' : y < x
      ·simp [h1, h1']
      ·have : x = y := UInt8.le_antisymm (UInt8.not_lt.1 h1') (UInt8.not_lt.1 h1)
       subst this
       by_cases h2 : x < z
       rotate_left
       ·by_cases h3 : z < x
        rotate_left
        ·simpa [h1, h2, h3] using ih b d
        simp [h2, h3]
       simp [h2]
     by_cases h2 : y < z
     rotate_left
     ·by_cases h3 : z < y
      rotate_left
      ·have : y = z := UInt8.le_antisymm (UInt8.not_lt.1 h3) (UInt8.not_lt.1 h2)
       subst this
       simp [h1]
      simp [h1, h2, h3]
     simp [h1, h2, UInt8.lt_trans h1 h2]
def lx (c : List UInt8 → List UInt8 → Int) (a b : List UInt8 × List UInt8) : Int := if c a.1 b.1 = 0 then c a.2 b.2 else c a.1 b.1
theorem lx_ord {c : List UInt8 → List UInt8 → Int} (h : Ordr c) : Ordr (lx c) := by
 constructor
 ·rintro ⟨a, b⟩ ⟨d, e⟩
  unfold lx
  simp only
  by_cases g : c a d = 0
  rotate_left
  ·rw [if_neg g]
   have : a ≠ d := fun e => g ((h.zero a d).2 e)
   simp [g, this]
  rw [if_pos g, h.zero b e]
  have := (h.zero a d).1 g
  subst this
  simp
 ·rintro ⟨a, b⟩ ⟨d, e⟩
  unfold lx
  simp only
  by_cases g : c a d = 0
  rotate_left
  ·have g2 : ¬ c d a = 0 := fun q => g ((h.zero a d).2 ((h.zero d a).1 q).symm)
   rw [if_neg g, if_neg g2]
   exact h.anti a d
  have := (h.zero a d).1 g
  subst this
  rw [if_pos g, if_pos g]
  exact h.anti b e
 ·rintro ⟨a, b⟩ ⟨d, e⟩ ⟨u, v⟩
  unfold lx
  simp only
  by_cases g : c a d = 0
  rotate_left
  ·rw [if_neg g]
   by_cases g2 : c d u = 0
   rotate_left
   ·rw [if_neg g2]
    intro q1 q2
    have q3 := h.trans a d u q1 q2
    rw [if_neg (by omega)]
    exact q3
   have := (h.zero d u).1 g2
   subst this
   rw [if_pos g2, if_neg g]; exact fun q _ => q
  have := (h.zero a d).1 g
  subst this
  rw [if_pos g]
  by_cases g2 : c a u = 0
  rotate_left
  ·rw [if_neg g2, if_neg g2]; exact fun _ q => q
  rw [if_pos g2, if_pos g2]; exact h.trans b e v
theorem Ordr.step {κ : Type} {c : κ → κ → Int} (h : Ordr c) {x y t : κ} (h1 : c x y < 0) (h2 : 0 ≤ c x t) : 0 < c y t := by
 by_cases e : c x t = 0
 rotate_left
 ·have q : c t x < 0 := (h.anti t x).2 (by omega)
  exact (h.anti t y).1 (h.trans t x y q h1)
 have := (h.zero x t).1 e
 subst this
 exact (h.anti _ _).1 h1
def plc {α : Type} (c : α → Int) : List α → Nat
 | [] => 0
 | x :: l => if c x < 0 then plc c l + 1 else 0
def Rsg {α : Type} (c : α → Int) (l : List α) : Prop := ∀ (i j : Nat) (hi : i < j) (hj : j < l.length), 0 ≤ c l[i] → 0 < c l[j]
theorem plc_le {α : Type} (c : α → Int) : ∀ l, plc c l ≤ l.length
 | [] => by simp [plc]
 | x :: l => by have := plc_le c l; unfold plc; split <;> simp <;> omega
theorem plc_lt {α : Type} (c : α → Int) : ∀ l (i : Nat) (hi : i < l.length), i < plc c l → c l[i] < 0
 | [], i, hi, _ => by simp at hi
 | x :: l, i, hi, h => by
  unfold plc at h
  split at h
  ·rename_i hx
   cases i with
   | zero => exact hx
   | succ i => exact plc_lt c l i (by simpa using hi) (by omega)
  ·omega
theorem plc_at {α : Type} (c : α → Int) : ∀ l (h : plc c l < l.length), 0 ≤ c (l[plc c l]'h)
 | [], h => by simp [plc] at h
 | x :: l, h => by
  by_cases hx : c x < 0
  rotate_left
  ·have e : plc c (x :: l) = 0 := by rw [plc, if_neg hx]
   simp only [e, List.getElem_cons_zero]
   omega
  have e : plc c (x :: l) = plc c l + 1 := by rw [plc, if_pos hx]
  have h2 : plc c l < l.length := by rw [e] at h; simpa using h
  have := plc_at c l h2
  simpa only [e, List.getElem_cons_succ] using this
theorem Rsg.gt {α : Type} {c : α → Int} {l : List α} (h : Rsg c l) (i : Nat) (hi : i < l.length) (hp : plc c l < i) : 0 < c l[i] := h (plc c l) i hp hi (plc_at c l (by omega))
def fnd {α : Type} (c : α → Int) (l : List α) : Bool := if h : plc c l < l.length then decide (c (l[plc c l]'h) = 0) else false
theorem fnd_t {α : Type} {c : α → Int} {l : List α} (h : fnd c l = true) : ∃ hp : plc c l < l.length, c (l[plc c l]'hp) = 0 := by
 unfold fnd at h
 split at h
 ·rename_i hp; exact ⟨hp, by simpa using h⟩
 ·cases h
theorem fnd_f {α : Type} {c : α → Int} {l : List α} (hr : Rsg c l) (h : fnd c l = false) (i : Nat) (hi : i < l.length) : c l[i] ≠ 0 := by
 rcases Nat.lt_trichotomy i (plc c l) with g | g | g
 ·have := plc_lt c l i hi g; omega
 ·subst g
  unfold fnd at h
  rw [dif_pos hi] at h
  simpa using h
 ·have := hr.gt i hi g; omega
theorem rsg_of {α κ : Type} {c : κ → κ → Int} (ho : Ordr c) (key : α → κ) {l : List α} (h : ∀ (i : Nat) (hi : i + 1 < l.length), c (key (l[i]'(by omega))) (key l[i + 1]) < 0) (t : κ) : Rsg (fun x => c (key x) t) l := by
 have q : ∀ (d i : Nat) (hj : i + d + 1 < l.length), c (key (l[i]'(by omega))) (key l[i + d + 1]) < 0 := by
  intro d
  induction d with
  | zero => intro i hj; exact h i hj
  | succ d ih =>
   intro i hj
   exact ho.trans _ _ _ (ih i (by omega)) (h (i + d + 1) (by omega))
 intro i j hi hj h0
 have e : i + (j - i - 1) + 1 = j := by omega
 have := q (j - i - 1) i (by omega)
 simp only [e] at this
 exact ho.step this h0
theorem mid_ev (i j : Nat) (h : (i : Int) + j < 1000000000000) : wrap64 ((IntKind.u64.wrap (wrap64 ((i : Int) + j))) / 2) = (((i + j) / 2 : Nat) : Int) := by
 rw [wr64 (x := (i : Int) + j) (by omega) (by omega)]
 have : IntKind.u64.wrap ((i : Int) + j) = (i : Int) + j := by simp [IntKind.wrap, IntKind.bits, IntKind.signed]; omega
 rw [this, wr64 (by omega) (by omega)]
 omega
theorem w64 {x : Int} (h0 : -9223372036854775808 ≤ x) (h1 : x < 9223372036854775808) : wrap64 x = x := by unfold wrap64; omega
abbrev Bs (l : List UInt8) : ByteArray := ⟨l.toArray⟩
theorem Bs_app (a b : List UInt8) : Bs a ++ Bs b = Bs (a ++ b) := by
 apply ByteArray.ext
 simp
theorem bp_ (l : List UInt8) : (Bs l).size = l.length := by simp [ByteArray.size]
theorem cU_ (s : ByteArray) : Bs s.data.toList = s := by cases s; rfl
theorem Bs_list (l : List UInt8) : (Bs l).data.toList = l := by simp
def digs (u : Nat) : List Int := if h : u = 0 then [] else (48 + (u % 10 : Nat) : Int) :: digs (u / 10)
termination_by u
decreasing_by omega
theorem digs_zero : digs 0 = [] := by rw [digs, dif_pos rfl]
theorem digs_pos {u : Nat} (h : u ≠ 0) : digs u = (48 + (u % 10 : Nat) : Int) :: digs (u / 10) := by rw [digs, dif_neg h]
theorem digs_dec (u : Nat) (h : u ≠ 0) : (digs u).reverse.map (fun n => UInt8.ofNat n.toNat) = Go.Lib.decDigits u := by
 induction u using Nat.strongRecOn with
 | _ u ih =>
  rw [digs_pos h, Go.Lib.decDigits]
  by_cases h10 : u < 10
  rotate_left
  ·rw [dif_neg h10, List.reverse_cons, List.map_append, ih (u / 10) (by omega) (by omega)]
   simp only [List.map_cons, List.map_nil]
   rw [show (48 + ((u % 10 : Nat) : Int)).toNat = 48 + u % 10 by omega]
  rw [dif_pos h10, show u / 10 = 0 by omega, digs_zero, Nat.mod_eq_of_lt h10]
  simp only [List.reverse_cons, List.reverse_nil, List.nil_append, List.map_cons, List.map_nil]
  rw [show (48 + (u : Int)).toNat = 48 + u by omega]
def its (n : Int) : ByteArray := Bs (Go.Lib.itoa n)
theorem rev_ev (x3 : List Int) (hl : x3.length ≤ 1000) : ∀ (j : Nat) (x6 : List Int), j ≤ x3.length → x6.length + j ≤ 1000 → Ev (fun k => au_.l1 k x3 x6 ((j : Int) - 1)) (strOfNums (x6 ++ (x3.take j).reverse))
 | 0, x6, _, _ => by
  refine bb_ ?_
  simp only [au_.l1]
  exact Ev_f (by omega) (Ev_n (by simp))
 | j + 1, x6, h, h2 => by
  refine bb_ ?_
  simp only [au_.l1]
  have e : ((j + 1 : Nat) : Int) - 1 = (j : Int) := by omega
  rw [e]
  refine Ev_t (by omega) (Ev_t (by omega) (Ev_t (by omega) (Ev_t (by omega) ?_)))
  rw [wr64 (x := (j : Int) - 1) (by omega) (by omega)]
  have hr : rd x3 (j : Int) = x3[j] := by unfold rd; exact getD_in x3 _ j (by omega)
  have := rev_ev x3 hl j (x6 ++ [rd x3 (j : Int)]) (by omega) (by simp; omega)
  refine Ev_at this ?_
  rw [hr, List.take_succ_eq_append_getElem (by omega), List.reverse_append]
  simp
theorem dec_loop (n0 : Int) : ∀ (d u : Nat) (x3 : List Int) (m : Int), u < 10 ^ d → d ≤ 19 → x3.length + d ≤ 30 → m = (if n0 < 0 then -(u : Int) else (u : Int)) → Ev (fun k => au_.l0 k n0 x3 m) (strOfNums ((x3 ++ digs u ++ (if n0 < 0 then [45] else [])).reverse)) := by
 have fin : ∀ (x : List Int), x.length ≤ 100 → Ev (fun k => au_.j1 k x) (strOfNums x.reverse) := fun x hx => by
  refine bb_ ?_
  simp only [au_.j1]
  rw [wr64 (x := (x.length : Int) - 1) (by omega) (by omega)]
  have := rev_ev x (by omega) x.length [] (Nat.le_refl _) (by simp; omega)
  simpa using this
 have stop : ∀ (x3 : List Int), x3.length ≤ 50 → Ev (fun k => au_.l0 k n0 x3 0) (strOfNums ((x3 ++ (if n0 < 0 then [45] else [])).reverse)) := fun x3 h => by
  refine bb_ ?_
  simp only [au_.l0]
  refine Ev_t (by simp) ?_
  by_cases c : n0 < 0
  rotate_left
  ·rw [if_neg c, List.append_nil]
   exact Ev_f c (fin _ (by omega))
  rw [if_pos c]
  exact Ev_t c (Ev_t (by omega) (fin _ (by simp; omega)))
 intro d
 induction d with
 | zero =>
  intro u x3 m hu hd hl hm
  have : u = 0 := by simpa using hu
  subst this
  have hm0 : m = 0 := by rw [hm]; split <;> rfl
  subst hm0
  rw [digs_zero, List.append_nil]
  exact stop x3 (by omega)
 | succ d ih =>
  intro u x3 m hu hd hl hm
  by_cases h0 : u = 0
  rotate_left
  ·have hu2 : u / 10 < 10 ^ d := by rw [Nat.pow_succ] at hu; omega
   have hbig : u < 10000000000000000000 := Nat.lt_of_lt_of_le hu (Nat.le_trans (Nat.pow_le_pow_right (by decide) hd) (by decide))
   refine bb_ ?_
   simp only [au_.l0]
   have step := ih (u / 10) (x3 ++ [48 + ((u % 10 : Nat) : Int)]) (if n0 < 0 then -((u / 10 : Nat) : Int) else ((u / 10 : Nat) : Int)) hu2 (by omega) (by simp; omega) rfl
   rw [List.append_assoc x3, List.singleton_append, ← digs_pos h0] at step
   by_cases c : n0 < 0
   rotate_left
   ·rw [if_neg c] at hm step
    subst hm
    have e1 : Int.tmod (u : Int) 10 = ((u % 10 : Nat) : Int) := by rw [Int.tmod_eq_emod_of_nonneg (by omega)]; omega
    have e2 : Int.tdiv (u : Int) 10 = ((u / 10 : Nat) : Int) := by rw [Int.tdiv_eq_ediv_of_nonneg (by omega)]; omega
    refine Ev_f (by omega) ?_
    rw [e1, e2, wr64 (x := ((u / 10 : Nat) : Int)) (by omega) (by omega)]
    refine Ev_f (by omega) (Ev_t (by omega) ?_)
    rw [wr64 (x := 48 + ((u % 10 : Nat) : Int)) (by omega) (by omega), show (48 + ((u % 10 : Nat) : Int)) % 256 = 48 + ((u % 10 : Nat) : Int) by omega]
    exact step
   rw [if_pos c] at hm step
   subst hm
   have e1 : Int.tmod (-(u : Int)) 10 = -((u % 10 : Nat) : Int) := by rw [Int.neg_tmod, Int.tmod_eq_emod_of_nonneg (by omega)]; omega
   have e2 : Int.tdiv (-(u : Int)) 10 = -((u / 10 : Nat) : Int) := by rw [Int.neg_tdiv, Int.tdiv_eq_ediv_of_nonneg (by omega)]; omega
   refine Ev_f (by omega) ?_
   rw [e1, e2, wr64 (x := -((u / 10 : Nat) : Int)) (by omega) (by omega)]
   by_cases cz : u % 10 = 0
   rotate_left
   ·refine Ev_t (by omega) (Ev_t (by omega) ?_)
    rw [wr64 (x := - -((u % 10 : Nat) : Int)) (by omega) (by omega), wr64 (x := 48 + - -((u % 10 : Nat) : Int)) (by omega) (by omega), show (48 + - -((u % 10 : Nat) : Int)) % 256 = 48 + ((u % 10 : Nat) : Int) by omega]
    exact step
   refine Ev_f (by omega) (Ev_t (by omega) ?_)
   rw [wr64 (x := 48 + -((u % 10 : Nat) : Int)) (by omega) (by omega), show (48 + -((u % 10 : Nat) : Int)) % 256 = 48 + ((u % 10 : Nat) : Int) by omega]
   exact step
  subst h0
  have hm0 : m = 0 := by rw [hm]; split <;> rfl
  subst hm0
  rw [digs_zero, List.append_nil]
  exact stop x3 (by omega)
theorem dec_ev (n : Int) (h0 : -9223372036854775808 ≤ n) (h1 : n ≤ 9223372036854775807) : Ev (fun k => au_.f k n) (its n) := by
 simp only [au_.f]
 by_cases c : n = 0
 rotate_left
 ·refine Ev_f c ?_
  have := dec_loop n 19 n.natAbs [] n (by rw [show (10 : Nat) ^ 19 = 10000000000000000000 by decide]; omega) (by omega) (by simp) (by split <;> omega)
  refine Ev_at this ?_
  rw [List.nil_append, List.reverse_append]
  have hd := digs_dec n.natAbs (by omega)
  unfold its Go.Lib.itoa strOfNums Bs
  by_cases cn : n < 0
  rotate_left
  ·rw [if_neg cn, if_neg cn, List.map_append, hd, show n.toNat = n.natAbs by omega]; rfl
  rw [if_pos cn, if_pos cn, List.map_append, hd]; rfl
 subst c
 refine Ev_t rfl (Ev_n ?_)
 unfold its Go.Lib.itoa
 rw [if_neg (by decide), Go.Lib.decDigits, dif_pos (by decide)]
 rfl
theorem Decimal_f (n : Int) (h0 : -9223372036854775808 ≤ n) (h1 : n ≤ 9223372036854775807) : cF_.f n = some (its n) := by
 unfold cF_.f bR_.f
 rw [if_pos ⟨rfl, h0, h1⟩]
 rfl
theorem bt_in (l : List UInt8) (i : Nat) (h : i < l.length) : bt (Bs l) (i : Int) = (l[i].toNat : Int) := by
 unfold bt
 have hs : (i : Int).toNat < (Bs l).size := by rw [bp_]; simpa using h
 rw [dif_pos hs]
 simp
 rfl
theorem u8_eq (c : UInt8) (n : Nat) (hn : n < 256) : ((c.toNat : Int) = (n : Int)) ↔ c = UInt8.ofNat n := by
 constructor
 ·intro h
  apply UInt8.toNat.inj
  rw [UInt8.toNat_ofNat_of_lt' hn]
  omega
 ·rintro rfl
  rw [UInt8.toNat_ofNat_of_lt' hn]
def spl (c : UInt8) : List UInt8 → List (List UInt8)
 | [] => [[]]
 | b :: l => if b = c then [] :: spl c l else match spl c l with
  | h :: t => (b :: h) :: t
  | [] => [[b]]
theorem spl_ne (c : UInt8) : ∀ l, spl c l ≠ []
 | [] => by simp [spl]
 | b :: l => by
  rw [spl]
  split
  ·simp
  ·split <;> simp
theorem spl_len (c : UInt8) : ∀ l, (spl c l).length ≤ l.length + 1
 | [] => by simp [spl]
 | b :: l => by
  have := spl_len c l
  rw [spl]
  split
  ·simp only [List.length_cons]; omega
  ·split
   ·rename_i h t e
    rw [e] at this
    simp only [List.length_cons] at this ⊢
    omega
   ·simp
theorem splitK_eq (c : UInt8) : ∀ s : List UInt8, Go.Lib.splitK [c] 0 (Go.Lib.count s [c]) s = spl c s
 | [] => by
  rw [Go.Lib.count_miss (by simp [Go.Lib.index])]
  rfl
 | b :: l => by
  have ih := splitK_eq c l
  by_cases h : b = c
  rotate_left
  ·rw [Go.Lib.count_cons_ne b c l h]
   have hp : ([c] : List UInt8).isPrefixOf (b :: l) = false := by simp [List.isPrefixOf, Ne.symm h]
   have hix : Go.Lib.index (b :: l) [c] = if Go.Lib.index l [c] == -1 then -1 else Go.Lib.index l [c] + 1 := by rw [Go.Lib.index, hp]; simp
   rw [spl, if_neg h]
   by_cases hm : Go.Lib.index l [c] = -1
   rotate_left
   ·have hge := Go.Lib.index_ge l [c]
    obtain ⟨j, hj⟩ : ∃ j : Nat, Go.Lib.index l [c] = j := ⟨(Go.Lib.index l [c]).toNat, by omega⟩
    have hk : ∃ k, Go.Lib.count l [c] = k + 1 := ⟨Go.Lib.count (l.drop (j + 1)) [c], by rw [Go.Lib.count_hit (by simp) hj]; simp; omega⟩
    obtain ⟨k, hk⟩ := hk
    rw [hk] at ih ⊢
    have hne : ¬ (Go.Lib.index l [c] == -1) = true := fun e => hm (beq_iff_eq.1 e)
    have hix2 : Go.Lib.index (b :: l) [c] = ((j + 1 : Nat) : Int) := by rw [hix, if_neg hne, hj]; omega
    have hne2 : ¬ (Go.Lib.index (b :: l) [c] == -1) = true := fun e => by have := beq_iff_eq.1 e; omega
    rw [Go.Lib.splitK, if_neg hne, hj] at ih
    rw [Go.Lib.splitK, if_neg hne2, hix2, ← ih]
    simp
   rw [Go.Lib.count_miss hm] at ih ⊢
   have e : spl c l = [l] := ih.symm
   rw [e]
   rfl
  subst h
  rw [Go.Lib.count_cons_eq, Nat.add_comm, spl, if_pos rfl, ← ih]
  have hix : Go.Lib.index (b :: l) [b] = 0 := by rw [Go.Lib.index]; simp [List.isPrefixOf]
  rw [Go.Lib.splitK, hix]
  rfl
theorem split_f (s : ByteArray) (hs : (s.size : Int) ≤ 1048576) (c : UInt8) : strings_Split.f s (Bs [c]) = some ((spl c s.data.toList).map Bs) := by
 unfold strings_Split.f
 rw [if_pos ⟨by omega, by rw [bp_]; simp⟩]
 congr 1
 have h := Go.Lib.splitB_data (Bs [c]) 0 (Go.Lib.countB s (Bs [c])) s
 have e : (Bs [c]).data.toList = [c] := Bs_list _
 unfold Go.Lib.countB at h
 rw [e, splitK_eq] at h
 rw [← h, List.map_map]
 unfold Go.Lib.countB
 rw [e]
 conv => lhs; rw [← List.map_id (Go.Lib.splitB (Bs [c]) 0 (Go.Lib.count s.data.toList [c]) s)]
 apply List.map_congr_left
 intro x _
 exact (cU_ x).symm
theorem rdO_in (l : List ByteArray) (i : Nat) (h : i < l.length) : rdOf ByteArray.empty l (i : Int) = l[i] := by unfold rdOf; exact getD_in l _ i h
theorem bits16 (op : BinOp) (hop : op = .xor ∨ op = .and) (a b : Int) (ha : 0 ≤ a) (ha2 : a < 131072) (hb : 0 ≤ b) (hb2 : b < 65536) (h : op = .xor → a < 65536) : 0 ≤ Go.bits op .i64 a b ∧ Go.bits op .i64 a b < 65536 := by
 obtain ⟨x, rfl⟩ := Int.eq_ofNat_of_zero_le ha
 obtain ⟨y, rfl⟩ := Int.eq_ofNat_of_zero_le hb
 have hx : x % 2 ^ IntKind.i64.bits = x := Nat.mod_eq_of_lt (by show x < 2 ^ 64; omega)
 have hy : y % 2 ^ IntKind.i64.bits = y := Nat.mod_eq_of_lt (by show y < 2 ^ 64; omega)
 have key : ∀ n : Nat, n < 65536 → 0 ≤ IntKind.i64.wrap (n : Int) ∧ IntKind.i64.wrap (n : Int) < 65536 := fun n hn => by
  rw [IntKind.wrap_i64]
  omega
 rcases hop with rfl | rfl
 ·have hx2 : x < 2 ^ 16 := by have := h rfl; omega
  have := Nat.xor_lt_two_pow (n := 16) hx2 (show y < 2 ^ 16 by omega)
  have := key _ this
  simpa only [bits, BitVec.ofInt_natCast, BitVec.toNat_xor, BitVec.toNat_ofNat, hx, hy] using this
 ·have := Nat.and_lt_two_pow x (show y < 2 ^ 16 by omega)
  have := key _ this
  simpa only [bits, BitVec.ofInt_natCast, BitVec.toNat_and, BitVec.toNat_ofNat, hx, hy] using this
theorem bt_256 (x : ByteArray) (i : Int) : 0 ≤ bt x i ∧ bt x i < 256 := by
 unfold bt
 split
 ·rename_i h
  have := UInt8.toNat_lt (x[i.toNat]'h)
  omega
 ·omega
theorem crc_ev (x : ByteArray) (hx : (x.size : Int) ≤ 1048576) : ∃ r : Int, 0 ≤ r ∧ r ≤ 65535 ∧ Ev (fun k => aF_.f k x 65535) r ∧ Ev (fun k => bn_.f k x 65535) r := by
 have inner : ∀ (i : Nat), (i : Int) + 1 ≤ 1048577 → (∀ c : Int, 0 ≤ c → c ≤ 65535 → ∃ r : Int, 0 ≤ r ∧ r ≤ 65535 ∧ Ev (fun k => aF_.l0 k x c ((i + 1 : Nat) : Int)) r ∧ Ev (fun k => bn_.l0 k x c ((i + 1 : Nat) : Int)) r) → ∀ (d j : Nat), j + d = 8 → ∀ c : Int, 0 ≤ c → c ≤ 65535 → ∃ r : Int, 0 ≤ r ∧ r ≤ 65535 ∧ Ev (fun k => aF_.l1 k x c i j) r ∧ Ev (fun k => bn_.l1 k x c i j) r := by
  intro i hi nx d
  induction d with
  | zero =>
   intro j hj c c0 c1
   obtain ⟨r, r0, r1, r2, r3⟩ := nx c c0 c1
   refine ⟨r, r0, r1, bb_ ?_, bb_ ?_⟩
   ·simp only [aF_.l1]; rw [wr64s i (by omega)]; exact Ev_f (by omega) r2
   ·simp only [bn_.l1]; rw [wr64s i (by omega)]; exact Ev_f (by omega) r3
  | succ d ih =>
   intro j hj c c0 c1
   have e2 : wrap64 (c * 2) = c * 2 := wr64 (by omega) (by omega)
   by_cases h : c * 2 > 65535
   rotate_left
   ·obtain ⟨r, r0, r1, r2, r3⟩ := ih (j + 1) (by omega) (c * 2) (by omega) (by omega)
    refine ⟨r, r0, r1, bb_ ?_, bb_ ?_⟩
    ·simp only [aF_.l1]; rw [e2, wr64s j (by omega)]; exact Ev_t (by omega) (Ev_f h r2)
    ·simp only [bn_.l1]; rw [e2, wr64s j (by omega)]; exact Ev_t (by omega) (Ev_f h r3)
   have b1 := bits16 .and (.inr rfl) (c * 2) 65535 (by omega) (by omega) (by omega) (by omega) (fun q => by cases q)
   have b2 := bits16 .xor (.inl rfl) (Go.bits .and .i64 (c * 2) 65535) 4129 b1.1 (by omega) (by omega) (by omega) (fun _ => b1.2)
   obtain ⟨r, r0, r1, r2, r3⟩ := ih (j + 1) (by omega) _ b2.1 (by omega)
   refine ⟨r, r0, r1, bb_ ?_, bb_ ?_⟩
   ·simp only [aF_.l1]; rw [e2, wr64s j (by omega)]; exact Ev_t (by omega) (Ev_t h r2)
   ·simp only [bn_.l1]; rw [e2, wr64s j (by omega)]; exact Ev_t (by omega) (Ev_t h r3)
 have outer : ∀ (d i : Nat), i + d = x.size → ∀ c : Int, 0 ≤ c → c ≤ 65535 → ∃ r : Int, 0 ≤ r ∧ r ≤ 65535 ∧ Ev (fun k => aF_.l0 k x c i) r ∧ Ev (fun k => bn_.l0 k x c i) r := by
  intro d
  induction d with
  | zero =>
   intro i hi c c0 c1
   refine ⟨c, c0, c1, bb_ ?_, bb_ ?_⟩
   ·simp only [aF_.l0]; exact Ev_f (by omega) (Ev_n rfl)
   ·simp only [bn_.l0]; exact Ev_f (by omega) (Ev_n rfl)
  | succ d ih =>
   intro i hi c c0 c1
   have hb := bt_256 x i
   have e1 : wrap64 (bt x i) = bt x i := wr64 (by omega) (by omega)
   have e2 : wrap64 (bt x i * 256) = bt x i * 256 := wr64 (by omega) (by omega)
   have b2 := bits16 .xor (.inl rfl) c (bt x i * 256) c0 (by omega) (by omega) (by omega) (fun _ => by omega)
   obtain ⟨r, r0, r1, r2, r3⟩ := inner i (by omega) (fun c q0 q1 => ih (i + 1) (by omega) c q0 q1) 8 0 (by omega) _ b2.1 (by omega)
   refine ⟨r, r0, r1, bb_ ?_, bb_ ?_⟩
   ·simp only [aF_.l0]; rw [e1, e2]; exact Ev_t (by omega) (Ev_t (by omega) r2)
   ·simp only [bn_.l0]; rw [e1, e2]; exact Ev_t (by omega) (Ev_t (by omega) r3)
 obtain ⟨r, r0, r1, r2, r3⟩ := outer x.size 0 (by omega) 65535 (by omega) (by omega)
 refine ⟨r, r0, r1, ?_, ?_⟩
 ·simp only [aF_.f]; exact r2
 ·simp only [bn_.f]
  have : cY_.f 65535 0 65535 = some true := by decide
  exact Ev_b (Ev_c this) (Ev_t rfl r3)
def five (n : Int) : ByteArray := Bs (List.replicate (5 - (Go.Lib.itoa n).length) 48 ++ Go.Lib.itoa n)
theorem itoa5 (n : Int) (h0 : 0 ≤ n) (h1 : n ≤ 65535) : (Go.Lib.itoa n).length ≤ 5 := by
 obtain ⟨u, rfl⟩ := Int.eq_ofNat_of_zero_le h0
 have : Go.Lib.itoa (u : Int) = Go.Lib.decDigits u := Go.Lib.itoa_nonneg u
 rw [this]
 have key : ∀ (k u : Nat), u < 10 ^ k → 1 ≤ k → (Go.Lib.decDigits u).length ≤ k := by
  intro k
  induction k with
  | zero => intro u h hk; omega
  | succ k ih =>
   intro u h hk
   rw [Go.Lib.decDigits]
   split
   ·simp
   ·rename_i hu
    have h2 : 1 ≤ k := by
     rcases Nat.eq_zero_or_pos k with rfl | h
     ·simp at h; omega
     ·exact h
    have := ih (u / 10) (by rw [Nat.pow_succ] at h; omega) h2
    simp
    omega
 exact key 5 u (by omega) (by omega)
theorem five_spec (n : Int) (h0 : 0 ≤ n) (h1 : n ≤ 65535) : Ev (fun k => bm_.f k n) (five n) := by
 have h5 := itoa5 n h0 h1
 have go : ∀ (d m : Nat), m + d = 5 - (Go.Lib.itoa n).length → Ev (fun k => bm_.l0 k (Bs (List.replicate m 48 ++ Go.Lib.itoa n))) (five n) := by
  intro d
  induction d with
  | zero =>
   intro m h
   refine bb_ ?_
   simp only [bm_.l0]
   refine Ev_f ?_ (Ev_n (by unfold five; rw [show m = 5 - (Go.Lib.itoa n).length by omega]))
   rw [bp_]
   simp
   omega
  | succ d ih =>
   intro m h
   refine bb_ ?_
   simp only [bm_.l0]
   have hs : (Bs (List.replicate m 48 ++ Go.Lib.itoa n)).size = m + (Go.Lib.itoa n).length := by rw [bp_]; simp
   have e : (⟨#[48]⟩ : ByteArray) ++ Bs (List.replicate m 48 ++ Go.Lib.itoa n) = Bs (List.replicate (m + 1) 48 ++ Go.Lib.itoa n) := by
    have : (⟨#[48]⟩ : ByteArray) = Bs [48] := rfl
    rw [this, Bs_app, List.replicate_succ]
    rfl
   rw [hs, e]
   exact Ev_t (by omega) (Ev_t (by omega) (ih (m + 1) (by omega)))
 simp only [bm_.f]
 refine Ev_b (dec_ev n (by omega) (by omega)) ?_
 have := go _ 0 (Nat.zero_add _)
 simpa [its] using this
theorem five_impl (x : ByteArray) (n : Int) (h0 : 0 ≤ n) (h1 : n ≤ 65535) (h : Ev (fun k => bn_.f k x 65535) n) : Ev (fun k => bT_.f k x) (five n) := by
 have h5 := itoa5 n h0 h1
 have hs : (its n).size = (Go.Lib.itoa n).length := by unfold its; rw [bp_]
 have hz : (⟨#[48, 48, 48, 48, 48]⟩ : ByteArray) = Bs [48, 48, 48, 48, 48] := rfl
 simp only [bT_.f]
 refine Ev_b h (Ev_b (Ev_c (Decimal_f n (by omega) (by omega))) ?_)
 rw [hs, Int.toNat_natCast]
 have e : (⟨#[48, 48, 48, 48, 48]⟩ : ByteArray).extract (Go.Lib.itoa n).length (⟨#[48, 48, 48, 48, 48]⟩ : ByteArray).size = Bs (List.replicate (5 - (Go.Lib.itoa n).length) 48) := by
  rw [hz, ← cU_ ((Bs [48, 48, 48, 48, 48]).extract _ _), Go.Lib.extract_data, Bs_list, bp_]
  congr 1
  generalize (Go.Lib.itoa n).length = m at h5
  have : m = 0 ∨ m = 1 ∨ m = 2 ∨ m = 3 ∨ m = 4 ∨ m = 5 := by omega
  rcases this with rfl | rfl | rfl | rfl | rfl | rfl <;> rfl
 rw [e]
 refine Ev_t (by omega) (Ev_t (by omega) (Ev_t ?_ (Ev_n ?_)))
 ·rw [bp_]; simp; omega
 ·unfold five its; rw [Bs_app]
theorem five_len (n : Int) (h0 : 0 ≤ n) (h1 : n ≤ 65535) : (five n).size = 5 := by
 have h5 := itoa5 n h0 h1
 unfold five
 rw [bp_]
 simp
 omega
theorem toList_len (x : ByteArray) : x.toList.length = x.size := by
 rw [Go.ByteArray.toList_eq x, Array.length_toList]; rfl
theorem name_round (k : Nat) (x : ByteArray) (i : Int) : aI_.l0 k x i = aq_.l0 k x i := by
 induction k generalizing i with
 | zero => rfl
 | succ k ih =>
  simp only [aI_.l0, aq_.l0, ih, ca_.f, cH_.f]
  by_cases h1 : i < (x.size : Int)
  rotate_left
  ·rw [if_neg h1, if_neg h1]
  rw [if_pos h1, if_pos h1]
  by_cases h2 : 0 ≤ i
  rotate_left
  ·rw [if_neg h2, if_neg h2]
  rw [if_pos h2, if_pos h2]
  generalize bt x i = c
  by_cases h3 : c < 97
  rotate_left
  ·rw [if_neg h3, if_pos (show c ≥ 97 by omega)]
   by_cases h4 : c > 122
   rotate_left
   ·rw [if_neg h4]; simp [show c ≤ 122 by omega]
   simp [h4, show ¬ c < 48 by omega, show c > 57 by omega, show ¬ c ≤ 122 by omega, show ¬ c ≤ 57 by omega]
  rw [if_pos h3, if_neg (by omega)]
  by_cases h4 : c < 48
  rotate_left
  ·rw [if_neg h4, if_pos (by omega)]
   by_cases h5 : c > 57
   rotate_left
   ·rw [if_neg h5]; simp [show c ≤ 57 by omega]
   rw [if_pos h5]; simp [show ¬ c ≤ 57 by omega]
  rw [if_pos h4, if_neg (by omega)]; simp
theorem name_same (k : Nat) (x : ByteArray) : aI_.f k x = aq_.f k x := by
 have hj : ∀ b, aI_.j0 k x b = aq_.j0 k x b := by
  intro b
  cases k with
  | zero => rfl
  | succ k => simp only [aI_.j0, aq_.j0, name_round]
 unfold aI_.f aq_.f ca_.f
 simp only [hj]
 by_cases h0 : x.toList = []
 rotate_left
 ·have : x.size ≠ 0 := by
   intro e; apply h0; apply List.eq_nil_of_length_eq_zero; rw [toList_len, e]
  rw [if_neg h0, if_neg (show ¬ (x.size : Int) < 1 by omega)]
  by_cases h1 : (x.size : Int) > 10
  rotate_left
  ·rw [if_neg h1, if_neg h1, if_pos (show 0 < (x.size : Int) by omega), if_pos (show 0 < (x.size : Int) by omega)]
   generalize bt x 0 = c
   by_cases h3 : c < 97
   rotate_left
   ·rw [if_neg h3, if_pos (show c ≥ 97 by omega)]
    simp only [Option.bind_some]
    congr 1
    by_cases h4 : c > 122
    rotate_left
    ·simp [h4, show c ≤ 122 by omega]
    simp [h4, show ¬ c ≤ 122 by omega]
   rw [if_pos h3, if_neg (show ¬ c ≥ 97 by omega)]; rfl
  rw [if_pos h1, if_pos h1]
 have : x.size = 0 := by rw [← toList_len, h0]; rfl
 rw [if_pos h0, if_pos (by omega)]
theorem name_ev (x : ByteArray) : ∃ b, ∀ k, 12 < k → aq_.f k x = some b := by
 have go : ∀ (d : Nat) (i : Int), 0 ≤ i → i + d = x.size → (x.size : Int) ≤ 10 → ∃ b, ∀ k, d < k → aq_.l0 k x i = some b := by
  intro d
  induction d with
  | zero =>
   intro i h0 h1 _
   refine ⟨true, fun k hk => ?_⟩
   obtain ⟨k, rfl⟩ : ∃ m, k = m + 1 := ⟨k - 1, by omega⟩
   simp only [aq_.l0]
   rw [if_neg (by omega)]
  | succ d ih =>
   intro i h0 h1 h2
   obtain ⟨b, hb⟩ := ih (i + 1) (by omega) (by omega) h2
   by_cases h3 : bt x i < 97
   rotate_left
   ·by_cases h4 : bt x i > 122
    rotate_left
    ·refine ⟨b, fun k hk => ?_⟩
     obtain ⟨k, rfl⟩ : ∃ m, k = m + 1 := ⟨k - 1, by omega⟩
     simp only [aq_.l0]
     rw [if_pos (by omega), if_pos h0, if_neg h3, if_neg h4, w64 (by omega) (by omega), hb k (by omega)]
    refine ⟨false, fun k hk => ?_⟩
    obtain ⟨k, rfl⟩ : ∃ m, k = m + 1 := ⟨k - 1, by omega⟩
    simp only [aq_.l0]
    rw [if_pos (by omega), if_pos h0, if_neg h3, if_pos h4, if_neg (by omega), if_pos (by omega)]
   by_cases h4 : bt x i < 48
   rotate_left
   ·by_cases h5 : bt x i > 57
    rotate_left
    ·refine ⟨b, fun k hk => ?_⟩
     obtain ⟨k, rfl⟩ : ∃ m, k = m + 1 := ⟨k - 1, by omega⟩
     simp only [aq_.l0]
     rw [if_pos (by omega), if_pos h0, if_pos h3, if_neg h4, if_neg h5, w64 (by omega) (by omega), hb k (by omega)]
    refine ⟨false, fun k hk => ?_⟩
    obtain ⟨k, rfl⟩ : ∃ m, k = m + 1 := ⟨k - 1, by omega⟩
    simp only [aq_.l0]
    rw [if_pos (by omega), if_pos h0, if_pos h3, if_neg h4, if_pos h5]
   refine ⟨false, fun k hk => ?_⟩
   obtain ⟨k, rfl⟩ : ∃ m, k = m + 1 := ⟨k - 1, by omega⟩
   simp only [aq_.l0]
   rw [if_pos (by omega), if_pos h0, if_pos h3, if_pos h4]
 have hj : ∀ (b : Bool), (b = false → (x.size : Int) ≤ 10) → ∃ c, ∀ k, 12 < k → aq_.j0 k x b = some c := by
  intro b hs
  cases b with
  | true =>
   refine ⟨false, fun k hk => ?_⟩
   obtain ⟨k, rfl⟩ : ∃ m, k = m + 1 := ⟨k - 1, by omega⟩
   simp only [aq_.j0, if_true]
  | false =>
   obtain ⟨c, hc⟩ := go x.size 0 (by omega) (by omega) (hs rfl)
   have := hs rfl
   refine ⟨c, fun k hk => ?_⟩
   obtain ⟨k, rfl⟩ : ∃ m, k = m + 1 := ⟨k - 1, by omega⟩
   simp only [aq_.j0]
   rw [if_neg (by decide), hc k (by omega)]
 unfold aq_.f
 by_cases h1 : (x.size : Int) < 1
 rotate_left
 ·simp only [if_neg h1]
  by_cases h2 : (x.size : Int) > 10
  rotate_left
  ·simp only [if_neg h2, if_pos (show 0 < (x.size : Int) by omega)]
   by_cases h3 : bt x 0 < 97
   rotate_left
   ·simp only [if_neg h3]; exact hj _ (fun _ => by omega)
   simp only [if_pos h3]; exact hj true (by intro h; cases h)
  simp only [if_pos h2]; exact hj true (by intro h; cases h)
 simp only [if_pos h1]; exact hj true (by intro h; cases h)
def noNl : List UInt8 → Bool
 | [] => true
 | x :: l => if x = 10 then false else noNl l
theorem noNl_index : ∀ l : List UInt8, (!decide (0 ≤ Go.Lib.indexByte l 10)) = noNl l
 | [] => by decide
 | x :: l => by
  have ih := noNl_index l
  have hg := Go.Lib.indexByte_ge l 10
  unfold noNl Go.Lib.indexByte
  by_cases h : x = 10
  rotate_left
  ·have hb : (x == 10) = false := by simpa using h
   rw [if_neg (by rw [hb]; decide), if_neg h, ← ih]
   by_cases h2 : Go.Lib.indexByte l 10 = -1
   rotate_left
   ·have hb2 : (Go.Lib.indexByte l 10 == -1) = false := by simpa using h2
    rw [if_neg (by rw [hb2]; decide)]
    simp [show 0 ≤ Go.Lib.indexByte l 10 by omega, show 0 ≤ Go.Lib.indexByte l 10 + 1 by omega]
   simp [h2]
  simp [h]
theorem bt_get (s : ByteArray) (i : Nat) (h : i < s.data.toList.length) : (bt s (i : Int) = 10) = (s.data.toList[i] = 10) := by
 have hs : i < s.size := by rw [Array.length_toList] at h; exact h
 unfold bt
 rw [dif_pos (show (i : Int).toNat < s.size from hs)]
 have e : s[(i : Int).toNat]'hs = s.data.toList[i] := by simp; rfl
 rw [e]
 apply propext
 constructor
 ·intro he; apply UInt8.toNat_inj.1; have : (s.data.toList[i].toNat : Int) = ((10 : UInt8).toNat : Int) := he; exact Int.ofNat_inj.1 this
 ·intro he; rw [he]; rfl
theorem oneB_loop (x : S43) (hx : (x.f2.size : Int) ≤ 1048576) (na nb : Bool) (ha : ∀ k, 12 < k → aq_.f k x.f0 = some na) (hb : ∀ k, 12 < k → aq_.f k x.f1 = some nb) : ∀ (d i : Nat), i + d = x.f2.size → ∀ k, d + 20 < k → ay_.l0 k [x] i = some (noNl (x.f2.data.toList.drop i) && (na && (nb && decide ((x.f2.size : Int) ≤ 400)))) := by
 have hrd : aa_ [x] 0 = x := rfl
 have hsz : x.f2.data.toList.length = x.f2.size := by rw [Array.length_toList]; rfl
 have g0 : (0 < (([x] : List S43).length : Int)) = True := eq_true (by simp)
 intro d
 induction d with
 | zero =>
  intro i h k hk
  obtain ⟨k, rfl⟩ : ∃ m, k = m + 1 := ⟨k - 1, by omega⟩
  have g1 : ((i : Int) < (x.f2.size : Int)) = False := eq_false (by omega)
  simp only [ay_.l0, hrd, g0, g1, if_true, if_false, name_same, ha k (by omega), hb k (by omega), Option.bind_some]
  rw [List.drop_of_length_le (by omega)]
  cases na <;> cases nb <;> simp [noNl]
 | succ d ih =>
  intro i h k hk
  obtain ⟨k, rfl⟩ : ∃ m, k = m + 1 := ⟨k - 1, by omega⟩
  have g1 : ((i : Int) < (x.f2.size : Int)) = True := eq_true (by omega)
  have g2 : (0 ≤ (i : Int)) = True := eq_true (by omega)
  have g4 : wrap64 ((i : Int) + 1) = ((i + 1 : Nat) : Int) := by rw [w64 (by omega) (by omega)]; omega
  have hi : i < x.f2.data.toList.length := by omega
  simp only [ay_.l0, hrd, g0, g1, g2, g4, if_true]
  rw [List.drop_eq_getElem_cons hi]
  unfold noNl
  by_cases hc : x.f2.data.toList[i] = 10
  rotate_left
  ·rw [if_neg (by rw [bt_get x.f2 i hi]; exact hc), if_neg hc, ih (i + 1) (by omega) k (by omega)]
  rw [if_pos ((bt_get x.f2 i hi).symm ▸ hc), if_pos hc]; rfl
theorem validB_ev (x : S43) (hx : (x.f2.size : Int) ≤ 1048576) : ∃ b, ∀ k, 2000000 < k → ay_.f k [x] = some b ∧ aT_.f k x.f0 x.f1 x.f2 = some b := by
 obtain ⟨na, ha⟩ := name_ev x.f0
 obtain ⟨nb, hb⟩ := name_ev x.f1
 refine ⟨noNl x.f2.data.toList && (na && (nb && decide ((x.f2.size : Int) ≤ 400))), fun k hk => ⟨?_, ?_⟩⟩
 ·have := oneB_loop x hx na nb ha hb x.f2.size 0 (by omega) k (by omega)
  unfold ay_.f
  simpa using this
 ·unfold aT_.f strings_Contains.f
  rw [ha k (by omega), hb k (by omega)]
  have hn := noNl_index x.f2.data.toList
  cases na
  ·simp
  ·cases nb
   ·simp
   ·by_cases h4 : (x.f2.size : Int) ≤ 400
    ·simp only [Option.bind_some, if_true, h4]
     rw [hn]; simp
    ·simp [h4]
end Go.Proofs.YtjebkmfljcanlaaDoor.Q
namespace Go.Proofs.YtjebkmfljcanlaaDoor.Q
open Go.RowKit Go.Proofs.YtjebkmfljcanlaaDoorW.PrintWords Go.Proofs.YtjebkmfljcanlaaDoorW.PrintLast Go.Proofs.YtjebkmfljcanlaaDoorW.PrintMore
attribute [local go_sem] aM_ aN_ be_ bc_ aC_ aD_ aL_ aK_
mutual
def ai_.j0 : Nat → ByteArray → Bool → Option (ByteArray × ByteArray × ByteArray × Int)
 | 0, _, _ => none
 | k + 1, x0, x15 => if x15 = true then (some ((⟨#[]⟩ : ByteArray), (⟨#[]⟩ : ByteArray), (⟨#[]⟩ : ByteArray), 9)) else (if 6 ≤ (x0.size : Int) then ((some (x0.extract 6 x0.size : ByteArray)).bind fun y102 => (if 5 ≤ (x0.size : Int) then ((aF_.f k y102 65535).bind fun t104 => ((bm_.f k t104).bind fun t105 => (if (x0.extract 0 5).toList = t105.toList then (ai_.l0 k y102 0) else (some ((⟨#[]⟩ : ByteArray), (⟨#[]⟩ : ByteArray), (⟨#[]⟩ : ByteArray), 10))))) else (none))) else (none))
def ai_.j2 : Nat → ByteArray → Int → Option (ByteArray × ByteArray × ByteArray × Int)
 | 0, _, _ => none
 | k + 1, x4, x5 => ai_.l1 k x4 x5 (wrap64 (x5 + 1))
def ai_.j4 : Nat → ByteArray → Int → Int → Option (ByteArray × ByteArray × ByteArray × Int)
 | 0, _, _, _ => none
 | k + 1, x4, x5, x6 => if x6 ≥ (x4.size : Int) then (some ((⟨#[]⟩ : ByteArray), (⟨#[]⟩ : ByteArray), (⟨#[]⟩ : ByteArray), 9)) else (if 0 ≤ x5 then (if x5 ≤ (x4.size : Int) then ((some (x4.extract 0 (x5 : Int).toNat : ByteArray)).bind fun y106 => (if 0 ≤ (wrap64 (x5 + 1)) then (if (wrap64 (x5 + 1)) ≤ x6 then (if x6 ≤ (x4.size : Int) then ((some (x4.extract ((wrap64 (x5 + 1)) : Int).toNat (x6 : Int).toNat : ByteArray)).bind fun y107 => (if 0 ≤ (wrap64 (x6 + 1)) then (if (wrap64 (x6 + 1)) ≤ (x4.size : Int) then ((some (x4.extract ((wrap64 (x6 + 1)) : Int).toNat x4.size : ByteArray)).bind fun y108 => ((ay_.f k [(⟨y106, y107, y108⟩ : S43)]).bind fun t110 => (if t110 = true then (some (y106, y107, y108, 0)) else (some ((⟨#[]⟩ : ByteArray), (⟨#[]⟩ : ByteArray), (⟨#[]⟩ : ByteArray), 9))))) else (none)) else (none))) else (none)) else (none)) else (none))) else (none)) else (none))
def ai_.l1 : Nat → ByteArray → Int → Int → Option (ByteArray × ByteArray × ByteArray × Int)
 | 0, _, _, _ => none
 | k + 1, x4, x5, x6 => if x6 < (x4.size : Int) then (if 0 ≤ x6 then (if (bt x4 x6) = 32 then (ai_.j4 k x4 x5 x6) else (ai_.l1 k x4 x5 (wrap64 (x6 + 1)))) else (none)) else (ai_.j4 k x4 x5 x6)
def ai_.l0 : Nat → ByteArray → Int → Option (ByteArray × ByteArray × ByteArray × Int)
 | 0, _, _ => none
 | k + 1, x4, x5 => if x5 < (x4.size : Int) then (if 0 ≤ x5 then (if (bt x4 x5) = 32 then (ai_.j2 k x4 x5) else (ai_.l0 k x4 (wrap64 (x5 + 1)))) else (none)) else (ai_.j2 k x4 x5)
end
def ai_.f (k : Nat) (a0 : ByteArray) : Option (ByteArray × ByteArray × ByteArray × Int) := if (a0.size : Int) < 6 then (ai_.j0 k a0 true) else (if 5 < (a0.size : Int) then (ai_.j0 k a0 ((bt a0 5) != 32)) else (none))
def ai_.T14 : Bool × List (List Nat × List Nat) := (true, [([], []), ([], []), ([0, 1], [0, 1]), ([], []), ([], []), ([4], [4]), ([], []), ([3, 5, 6], [3, 5, 6]), ([], []), ([], []), ([9], [9]), ([8, 10], [8, 10]), ([2, 7, 11], [2, 7, 11]), ([], []), ([13, 12, 0, 1, 2, 3, 4, 5, 6, 7, 8, 9, 10, 11, 12, 13], [12, 13])])
def ai_.B14 : List Nat := [0, 0, 3, 0, 0, 16, 0, 120, 0, 0, 512, 1792, 4095, 0, 16383]
theorem ai_.tab14 : rtab .any (opsOf Tryd.f27 14) = ai_.T14 := by kernel_rfl
theorem ai_.bits14 : cE_ ai_.T14.2 ai_.B14 = true := by kernel_rfl
set_option maxHeartbeats 8000000 in
set_option maxRecDepth 100000 in
theorem ai_.calls (k : Nat) (a0 : ByteArray) (r1 : ByteArray) (r2 : ByteArray) (r3 : ByteArray) (r4 : Int) (w : World) (h : ai_.f k a0 = some (r1, r2, r3, r4)) :
  Calls Tryd.prog 27 #[.string a0] w fun e w' => e = .returned (.tuple #[.agg #[.string r1, .string r2, .string r3], .int .i64 r4]) ∧ Below w.heap.size w w' := by
 have hu43 := Tryd.underlying43
 have HB := Aside0.mk (Below.refl w.heap.size w)
 have H : (if (a0.size : Int) < 6 then (ai_.j0 k a0 true) else (if 5 < (a0.size : Int) then (ai_.j0 k a0 ((bt a0 5) != 32)) else (none))) = some (r1, r2, r3, r4) := h
 clear h
 have HC2 := Aside0.mk H
 clear H
 go_enter Tryd.func27, Tryd.ntmps27
 go_upto_region 1 with (first | ((with_reducible refine aS_ (N := 2) rfl ?_); refine bB_ ?hg (N := 2) ?hd (cs := #[.string (⟨#[]⟩ : ByteArray), .string (⟨#[]⟩ : ByteArray), .string (⟨#[]⟩ : ByteArray)]) (t := 43) ?hr ?_; (case hd => rfl); (case hg => rfl); (case hr => (go_simp; try rfl)); intro gb101 hg w3 hbox hb; have BK101 := Aside0.mk (hbox); have GW101 := Aside0.mk ((by rw [hg]; exact (ak_ (bz HB.out)) : w.heap.size ≤ gb101)); have GE101 := GW101; replace HB := Aside0.mk (ah_ (bz HB.out) hb); clear hb hbox hg))
 (try simp only [Act.put, lsa_, ls0_, ls1_])
 go_cut [15] (fun v15 wc => ∃ (kq : Nat) (x15_1 : Bool), v15 = .bool x15_1 ∧ Aside0 (ai_.j0 kq a0 x15_1 = some (r1, r2, r3, r4)) ∧ Aside0 (kq ≤ k) ∧ Aside0 (wc.heap[gb101]? = some (.cells #[.string (⟨#[]⟩ : ByteArray), .string (⟨#[]⟩ : ByteArray), .string (⟨#[]⟩ : ByteArray)] 43 (0, 0))) ∧ Aside0 (Below w.heap.size w wc))
 case first =>
  have H := HC2.out
  clear HC2
  by_cases c4 : (a0.size : Int) < 6
  rotate_left
  ·rw [if_neg c4] at H
   have c4b0 : decide ((a0.size : Int) < 6) = false := decide_eq_false c4
   have c4b1 : decide (a0.size < 6) = false := decide_eq_false (by omega)
   clear c4
   (first | rw [c4b0] | (simp only [i64_w, i32_w]; rw [c4b0]) | (simp only [c4b1, Bool.not_true, Bool.not_false]) | (simp only [c4b0, Bool.not_true, Bool.not_false]) | skip)
   by_cases c5 : 5 < (a0.size : Int)
   rotate_left
   ·rw [if_neg c5] at H
    exact absurd H (by simp)
   rw [if_pos c5] at H
   have c5b0 : decide (5 < (a0.size : Int)) = true := decide_eq_true c5
   have c5b1 : decide (5 < a0.size) = true := decide_eq_true (by omega)
   clear c5
   have H' := Aside0.mk H
   clear H
   have p6 : 0 ≤ (5 : Int) := (by omega)
   have q6 : 5 < a0.size := (by have : (5 : Int) < (a0.size : Int) := of_decide_eq_true (by assumption); omega)
   have hx6 : ∀ h : 5 < a0.size, ((a0[5]'h).toNat : Int) = bt a0 5 := bt_at a0 5
   clear p6
   have qi6 : (5 < (a0.size : Int)) = True := eq_true (of_decide_eq_true (by assumption))
   replace q6 := eq_true q6
   go_wp2
   go_meet
   case rel => exact ⟨_, (((bt a0 5) != 32)), (by first | rfl | (simp; done) | (simp [*]; done)), H', ⟨by first | omega | exact Nat.le_refl _⟩, ⟨by (with_reducible repeat (first | refine bj_ ?_ _ | refine aX_ ?_ | refine aU_ ?_ _)); exact BK101.out⟩, ⟨bq⟩⟩
  rw [if_pos c4] at H
  have c4b0 : decide ((a0.size : Int) < 6) = true := decide_eq_true c4
  have c4b1 : decide (a0.size < 6) = true := decide_eq_true (by omega)
  clear c4
  (first | rw [c4b0] | (simp only [i64_w, i32_w]; rw [c4b0]) | (simp only [c4b1, Bool.not_true, Bool.not_false]) | (simp only [c4b0, Bool.not_true, Bool.not_false]) | skip)
  have H' := Aside0.mk H
  clear H
  go_wp2
  go_meet
  case rel => exact ⟨_, (true), (by first | rfl | (simp; done) | (simp [*]; done)), H', ⟨by first | omega | exact Nat.le_refl _⟩, ⟨by (with_reducible repeat (first | refine bj_ ?_ _ | refine aX_ ?_ | refine aU_ ?_ _)); exact BK101.out⟩, ⟨bq⟩⟩
 case rest =>
  clear HC2
  obtain ⟨kq, x15_1, rfl, HA, HJ1, BK101, HB⟩ := hcut
  cases kq with
  | zero => exact absurd HA.out (by simp [ai_.j0])
  | succ kj1 =>
   have H := HA.out
   clear HA
   simp only [ai_.j0] at H
   by_cases c7 : x15_1 = true
   rotate_left
   ·replace c7 := Bool.eq_false_iff.mpr c7
    subst c7
    have H1 : (if 6 ≤ (a0.size : Int) then ((some (a0.extract 6 a0.size : ByteArray)).bind fun y102 => (if 5 ≤ (a0.size : Int) then ((aF_.f kj1 y102 65535).bind fun t104 => ((bm_.f kj1 t104).bind fun t105 => (if (a0.extract 0 5).toList = t105.toList then (ai_.l0 kj1 y102 0) else (some ((⟨#[]⟩ : ByteArray), (⟨#[]⟩ : ByteArray), (⟨#[]⟩ : ByteArray), 10))))) else (none))) else (none)) = some (r1, r2, r3, r4) := by rw [if_neg (show ¬ (false = true) by decide)] at H; exact H
    clear H
    have H := H1
    clear H1
    by_cases c9 : 6 ≤ (a0.size : Int)
    rotate_left
    ·rw [if_neg c9] at H
     exact absurd H (by simp)
    rw [if_pos c9] at H
    have c9b0 := eq_true c9
    have c9b1 : decide (6 ≤ (a0.size : Int)) = true := decide_eq_true c9
    clear c9
    obtain ⟨y102, hy102⟩ : ∃ y_ : ByteArray, y_ = (a0.extract 6 a0.size) := ⟨_, rfl⟩
    replace H : (if 5 ≤ (a0.size : Int) then ((aF_.f kj1 y102 65535).bind fun t104 => ((bm_.f kj1 t104).bind fun t105 => (if (a0.extract 0 5).toList = t105.toList then (ai_.l0 kj1 y102 0) else (some ((⟨#[]⟩ : ByteArray), (⟨#[]⟩ : ByteArray), (⟨#[]⟩ : ByteArray), 10))))) else (none)) = some (r1, r2, r3, r4) := by first | (rw [hy102]; with_reducible exact H) | (have H2_ := (Option.bind_some _ _).symm.trans H; rw [hy102]; with_reducible exact H2_) | (have H2_ := (Option.bind_some _ _).symm.trans H; with_reducible exact H2_) | with_reducible exact H | (rw [hy102]; exact H) | exact H
    have Ny102 := Aside0.mk hy102
    clear hy102
    have Sy102 := Ny102.out.symm
    by_cases c10 : 5 ≤ (a0.size : Int)
    rotate_left
    ·rw [if_neg c10] at H
     exact absurd H (by simp)
    rw [if_pos c10] at H
    have c10b0 := eq_true c10
    have c10b1 : decide (5 ≤ (a0.size : Int)) = true := decide_eq_true c10
    clear c10
    obtain ⟨y103, hy103⟩ : ∃ y_ : ByteArray, y_ = (a0.extract 0 5) := ⟨_, rfl⟩
    replace H : ((aF_.f kj1 y102 65535).bind fun t104 => ((bm_.f kj1 t104).bind fun t105 => (if y103.toList = t105.toList then (ai_.l0 kj1 y102 0) else (some ((⟨#[]⟩ : ByteArray), (⟨#[]⟩ : ByteArray), (⟨#[]⟩ : ByteArray), 10))))) = some (r1, r2, r3, r4) := by first | (rw [hy103]; with_reducible exact H) | (have H2_ := (Option.bind_some _ _).symm.trans H; rw [hy103]; with_reducible exact H2_) | (have H2_ := (Option.bind_some _ _).symm.trans H; with_reducible exact H2_) | with_reducible exact H | (rw [hy103]; exact H) | exact H
    have Ny103 := Aside0.mk hy103
    clear hy103
    have Sy103 := Ny103.out.symm
    replace H := Option.bind_eq_some_iff.mp H
    obtain ⟨t104, A110, H⟩ := H
    (try dsimp only at H)
    have A11 := Aside0.mk A110
    clear A110
    replace H := Option.bind_eq_some_iff.mp H
    obtain ⟨t105, A120, H⟩ := H
    (try dsimp only at H)
    have A12 := Aside0.mk A120
    clear A120
    have HC13 := Aside0.mk H
    clear H
    try go_wp2
    have n0_ := Aside0.mk (aX_ BK101.out)
    have n1_ := Aside0.mk (bD_ HB.out)
    clear BK101
    clear HB
    have BK101 := n0_
    have HB := n1_
    clear n0_ n1_
    refine cW_ (n := 6) (S := fun w' => True) (ds := []) #[f_,f_,f_,f_,f_,f_] (by kernel_rfl) rfl rfl trivial (fun hHeld => ?_)
    generalize wc.drew = w14 at BK101 HB hHeld ⊢
    refine pure_ (i := 0) (N := some 19) (v := ?_) (a' := ?_) #[t_,f_,f_,f_,f_,f_] rfl rfl (by kernel_rfl) (fun _ _ _ h => h) (Or.inl ⟨by rfl, ?_⟩) ?_ ?_
    rotate_left
    ·intro w'
     go_simp
     with_reducible rfl
    rotate_left
    ·simp only [Act.put, lsa_, ls0_, ls1_, i64_w, i32_w]
     rfl
    refine pure_ (i := 1) (N := some 20) (v := ?_) (a' := ?_) #[t_,t_,f_,f_,f_,f_] rfl rfl (by kernel_rfl) (fun _ _ _ h => h) (Or.inl ⟨by rfl, ?_⟩) ?_ ?_
    rotate_left
    ·intro w'
     go_simp
     with_reducible rfl
    rotate_left
    ·simp only [Act.put, lsa_, ls0_, ls1_, i64_w, i32_w]
     rfl
    refine pure_ (i := 2) (N := some 21) (v := ?_) (a' := ?_) #[t_,t_,t_,f_,f_,f_] rfl rfl (by kernel_rfl) (fun _ _ _ h => h) (Or.inl ⟨by rfl, ?_⟩) ?_ ?_
    rotate_left
    ·intro w'
     go_simp
     with_reducible rfl
    rotate_left
    ·simp only [Act.put, lsa_, ls0_, ls1_, i64_w, i32_w]
     rfl
    refine one_ (i := 3) (N := some 22) #[t_,t_,t_,t_,f_,f_] rfl rfl (by kernel_rfl) (by decide) (fun K hK => ?_)
    (first | refine goes_ Tryd.func48 (by kernel_rfl) rfl #[.string y102, .int .i64 65535] (by rfl) rfl rfl (by first | rfl | (simp only [lma_, lmc_, lmn_]; first | done | rfl)) ?_ | refine RPW.cj_ Tryd.func48 (by kernel_rfl) rfl #[.string y102, .int .i64 65535] (by rfl) rfl rfl rfl (by first | rfl | (simp only [lma_, lmc_, lmn_]; first | done | rfl)) ?_ | refine RPW.ci_ Tryd.func48 (by kernel_rfl) rfl #[.string y102, .int .i64 65535] (by rfl) rfl rfl rfl (by first | rfl | (simp only [lma_, lmc_, lmn_]; first | done | rfl)) ?_)
    with_reducible refine (aF_.calls kj1 y102 65535 t104 _ A11.out).mono ?_
    rintro e w' ⟨rfl, ⟨nd, rfl⟩⟩
    refine ⟨_, rfl, ?_⟩
    refine hK.out _ _ trivial (fun hHeld => ?_)
    clear hK K
    refine norm_ (a' := ?_) ?_ ?_
    rotate_left
    ·show Act.put _ (some 22) _ = _
     simp only [Act.put, lsa_, ls0_, ls1_, i64_w, i32_w]
     rfl
    refine one_ (i := 4) (N := some 23) #[t_,t_,t_,t_,t_,f_] rfl rfl (by kernel_rfl) (by decide) (fun K hK => ?_)
    (first | refine goes_ Tryd.func47 (by kernel_rfl) rfl #[.int .i64 t104] (by rfl) rfl rfl (by first | rfl | (simp only [lma_, lmc_, lmn_]; first | done | rfl)) ?_ | refine RPW.cj_ Tryd.func47 (by kernel_rfl) rfl #[.int .i64 t104] (by rfl) rfl rfl rfl (by first | rfl | (simp only [lma_, lmc_, lmn_]; first | done | rfl)) ?_ | refine RPW.ci_ Tryd.func47 (by kernel_rfl) rfl #[.int .i64 t104] (by rfl) rfl rfl rfl (by first | rfl | (simp only [lma_, lmc_, lmn_]; first | done | rfl)) ?_)
    with_reducible refine (bm_.calls kj1 t104 t105 _ A12.out).mono ?_
    rintro e w15 ⟨rfl, hb⟩
    refine ⟨_, rfl, ?_⟩
    have n0_ := Aside0.mk (az_ (kz BK101.out) hb)
    have n1_ := Aside0.mk (ah_ (bq) hb)
    clear BK101
    clear HB
    have BK101 := n0_
    have HB := n1_
    clear n0_ n1_
    (try clear hb)
    refine hK.out _ _ trivial (fun hHeld => ?_)
    clear hK K
    refine norm_ (a' := ?_) ?_ ?_
    rotate_left
    ·show Act.put _ (some 23) _ = _
     simp only [Act.put, lsa_, ls0_, ls1_, i64_w, i32_w]
     rfl
    refine pure_ (i := 5) (N := some 24) (v := ?_) (a' := ?_) #[t_,t_,t_,t_,t_,t_] rfl rfl (by kernel_rfl) (fun _ _ _ h => h) (Or.inl ⟨by rfl, ?_⟩) ?_ ?_
    rotate_left
    ·intro w'
     go_simp
     with_reducible rfl
    rotate_left
    ·simp only [Act.put, lsa_, ls0_, ls1_, i64_w, i32_w]
     rfl
    refine done_ (by kernel_rfl) ?_
    go_upto_if 24 with (fail)
    have H := HC13.out
    clear HC13
    by_cases c16 : y103.toList = t105.toList
    rotate_left
    ·rw [if_neg c16] at H
     have c16b0 : (y103.toList == t105.toList) = false := beq_eq_false_iff_ne.mpr c16
     have c16b1 : (y103.toList != t105.toList) = true := bne_iff_ne.mpr c16
     (first | rw [c16b0] | (simp only [i64_w, i32_w]; rw [c16b0]) | (simp only [c16b1, Bool.not_true, Bool.not_false]) | (simp only [c16b0, Bool.not_true, Bool.not_false]) | skip)
     simp only [Option.some.injEq, Prod.mk.injEq] at H
     obtain ⟨rfl, rfl, rfl, rfl⟩ := H
     obtain ⟨hcz51_0, hcz51_1, hcz51_2⟩ := cz3_ BK101.out
     obtain ⟨hfz51_0, hfz51_1, hfz51_2⟩ := fz3_ BK101.out
     go_wp2
     refine bodyPost_ret (cy_ rfl _ _ gb101 43 #[.string (⟨#[]⟩ : ByteArray), .string (⟨#[]⟩ : ByteArray), .string (⟨#[]⟩ : ByteArray)] (0, 0) _ rfl (by exact kj3_2 (kj3_1 (kj3_0 (kz BK101.out)))) Tryd.underlying43 rfl (by kernel_rfl)) rfl ?_
     exact ⟨by first | rfl | (simp [*, aw_, av_] <;> rfl), bq⟩
    rw [if_pos c16] at H
    have c16b0 : (y103.toList == t105.toList) = true := beq_iff_eq.mpr c16
    have c16b1 : (y103.toList != t105.toList) = false := bne_eq_false_iff_eq.mpr c16
    clear c16
    (first | rw [c16b0] | (simp only [i64_w, i32_w]; rw [c16b0]) | (simp only [c16b1, Bool.not_true, Bool.not_false]) | (simp only [c16b0, Bool.not_true, Bool.not_false]) | skip)
    have HC17 := Aside0.mk H
    clear H
    go_upto_block 0 with (fail)
    go_cut [5] (fun v5 wc => ∃ (kq : Nat) (x5_16 : Int), v5 = .int .i64 x5_16 ∧ Aside0 (ai_.j2 kq y102 x5_16 = some (r1, r2, r3, r4)) ∧ Aside0 (kq ≤ kj1) ∧ Aside0 (wc.heap[gb101]? = some (.cells #[.string (⟨#[]⟩ : ByteArray), .string (⟨#[]⟩ : ByteArray), .string (⟨#[]⟩ : ByteArray)] 43 (0, 0))) ∧ Aside0 (Below w.heap.size w wc))
    case first =>
     have H := HC17.out
     clear HC17
     have H' := Aside0.mk H
     clear H
     go_wp2
     (try simp only [Act.put, lsa_, ls0_, ls1_])
     go_loopg [5] kj1 (fun kq v5 w' => ∃ (x5_2 : Int), v5 = .int .i64 x5_2 ∧ Aside0 (ai_.l0 kq y102 x5_2 = some (r1, r2, r3, r4)) ∧ Aside0 (kq ≤ kj1) ∧ Aside0 (w'.heap[gb101]? = some (.cells #[.string (⟨#[]⟩ : ByteArray), .string (⟨#[]⟩ : ByteArray), .string (⟨#[]⟩ : ByteArray)] 43 (0, 0))) ∧ Aside0 (Below w.heap.size w w'))
     case atStart => exact ⟨(0), (by first | rfl | (simp; done) | (simp [*]; done)), H', ⟨Nat.le_refl _⟩, ⟨by (with_reducible repeat (first | refine bj_ ?_ _ | refine aX_ ?_ | refine aU_ ?_ _)); exact BK101.out⟩, ⟨bq⟩⟩
     case round =>
      clear H'
      obtain ⟨x5_2, rfl, HA, HK2, BK101, HB⟩ := hrel
      cases gk with
      | zero => exact absurd HA.out (by simp [ai_.l0])
      | succ k2 =>
       have H := HA.out
       clear HA
       simp only [ai_.l0] at H
       by_cases c18 : x5_2 < (y102.size : Int)
       rotate_left
       ·rw [if_neg c18] at H
        have c18b0 : decide (x5_2 < (y102.size : Int)) = false := decide_eq_false c18
        clear c18
        (first | rw [c18b0] | (simp only [i64_w, i32_w]; rw [c18b0]) | (simp only [c18b1, Bool.not_true, Bool.not_false]) | (simp only [c18b0, Bool.not_true, Bool.not_false]) | skip)
        have H' := Aside0.mk H
        clear H
        go_wp2
        go_meet
        case rel => exact ⟨_, (x5_2), (by first | rfl | (simp; done) | (simp [*]; done)), H', ⟨by have := HJ1.out; have := HK2.out; first | omega | exact Nat.le_refl _⟩, ⟨by (with_reducible repeat (first | refine bj_ ?_ _ | refine aX_ ?_ | refine aU_ ?_ _)); exact BK101.out⟩, ⟨bq⟩⟩
       rw [if_pos c18] at H
       have c18b0 : decide (x5_2 < (y102.size : Int)) = true := decide_eq_true c18
       clear c18
       (first | rw [c18b0] | (simp only [i64_w, i32_w]; rw [c18b0]) | (simp only [c18b1, Bool.not_true, Bool.not_false]) | (simp only [c18b0, Bool.not_true, Bool.not_false]) | skip)
       by_cases c19 : 0 ≤ x5_2
       rotate_left
       ·rw [if_neg c19] at H
        exact absurd H (by simp)
       rw [if_pos c19] at H
       have c19b0 : decide (0 ≤ x5_2) = true := decide_eq_true c19
       clear c19
       by_cases c21 : (bt y102 x5_2) = 32
       rotate_left
       ·rw [if_neg c21] at H
        have c21b0 : ((bt y102 x5_2) == 32) = false := beq_eq_false_iff_ne.mpr c21
        have c21b1 : ((bt y102 x5_2) != 32) = true := bne_iff_ne.mpr c21
        have H' := Aside0.mk H
        clear H
        have p20 : 0 ≤ (x5_2 : Int) := of_decide_eq_true (by assumption)
        have q20 : x5_2 < (y102.size : Int) := of_decide_eq_true (by assumption)
        have hx20 := bt_at y102 x5_2
        replace p20 := eq_true p20
        replace q20 := eq_true q20
        go_wp2
        go_roundg k2
        case measure => have := HJ1.out; have := HK2.out; omega
        case rel => exact ⟨(wrap64 (x5_2 + 1)), (by first | rfl | (simp; done) | (simp [*]; done)), H', ⟨by have := HJ1.out; have := HK2.out; omega⟩, ⟨by (with_reducible repeat (first | refine bj_ ?_ _ | refine aX_ ?_ | refine aU_ ?_ _)); exact BK101.out⟩, ⟨bq⟩⟩
       rw [if_pos c21] at H
       have c21b0 : ((bt y102 x5_2) == 32) = true := beq_iff_eq.mpr c21
       have c21b1 : ((bt y102 x5_2) != 32) = false := bne_eq_false_iff_eq.mpr c21
       clear c21
       have H' := Aside0.mk H
       clear H
       have p20 : 0 ≤ (x5_2 : Int) := of_decide_eq_true (by assumption)
       have q20 : x5_2 < (y102.size : Int) := of_decide_eq_true (by assumption)
       have hx20 := bt_at y102 x5_2
       replace p20 := eq_true p20
       replace q20 := eq_true q20
       go_wp2
       go_meet
       case rel => exact ⟨_, (x5_2), (by first | rfl | (simp; done) | (simp [*]; done)), H', ⟨by have := HJ1.out; have := HK2.out; first | omega | exact Nat.le_refl _⟩, ⟨by (with_reducible repeat (first | refine bj_ ?_ _ | refine aX_ ?_ | refine aU_ ?_ _)); exact BK101.out⟩, ⟨bq⟩⟩
    case rest =>
     clear HC17
     obtain ⟨kq, x5_16, rfl, HA, HJ16, BK101, HB⟩ := hcut
     cases kq with
     | zero => exact absurd HA.out (by simp [ai_.j2])
     | succ kj16 =>
      have H := HA.out
      clear HA
      simp only [ai_.j2] at H
      have HC22 := Aside0.mk H
      clear H
      go_upto_block 2 with (fail)
      go_cut [6] (fun v6 wc => ∃ (kq : Nat) (x6_21 : Int), v6 = .int .i64 x6_21 ∧ Aside0 (ai_.j4 kq y102 x5_16 x6_21 = some (r1, r2, r3, r4)) ∧ Aside0 (kq ≤ kj16) ∧ Aside0 (wc.heap[gb101]? = some (.cells #[.string (⟨#[]⟩ : ByteArray), .string (⟨#[]⟩ : ByteArray), .string (⟨#[]⟩ : ByteArray)] 43 (0, 0))) ∧ Aside0 (Below w.heap.size w wc))
      case first =>
       have H := HC22.out
       clear HC22
       have H' := Aside0.mk H
       clear H
       go_wp2
       (try simp only [Act.put, lsa_, ls0_, ls1_])
       go_loopg [6] kj16 (fun kq v6 w' => ∃ (x6_3 : Int), v6 = .int .i64 x6_3 ∧ Aside0 (ai_.l1 kq y102 x5_16 x6_3 = some (r1, r2, r3, r4)) ∧ Aside0 (kq ≤ kj16) ∧ Aside0 (w'.heap[gb101]? = some (.cells #[.string (⟨#[]⟩ : ByteArray), .string (⟨#[]⟩ : ByteArray), .string (⟨#[]⟩ : ByteArray)] 43 (0, 0))) ∧ Aside0 (Below w.heap.size w w'))
       case atStart => exact ⟨(wrap64 (x5_16 + 1)), (by first | rfl | (simp; done) | (simp [*]; done)), H', ⟨Nat.le_refl _⟩, ⟨by (with_reducible repeat (first | refine bj_ ?_ _ | refine aX_ ?_ | refine aU_ ?_ _)); exact BK101.out⟩, ⟨bq⟩⟩
       case round =>
        clear H'
        obtain ⟨x6_3, rfl, HA, HK3, BK101, HB⟩ := hrel
        cases gk with
        | zero => exact absurd HA.out (by simp [ai_.l1])
        | succ k3 =>
         have H := HA.out
         clear HA
         simp only [ai_.l1] at H
         by_cases c23 : x6_3 < (y102.size : Int)
         rotate_left
         ·rw [if_neg c23] at H
          have c23b0 : decide (x6_3 < (y102.size : Int)) = false := decide_eq_false c23
          clear c23
          (first | rw [c23b0] | (simp only [i64_w, i32_w]; rw [c23b0]) | (simp only [c23b1, Bool.not_true, Bool.not_false]) | (simp only [c23b0, Bool.not_true, Bool.not_false]) | skip)
          have H' := Aside0.mk H
          clear H
          go_wp2
          go_meet
          case rel => exact ⟨_, (x6_3), (by first | rfl | (simp; done) | (simp [*]; done)), H', ⟨by have := HJ1.out; have := HJ16.out; have := HK3.out; first | omega | exact Nat.le_refl _⟩, ⟨by (with_reducible repeat (first | refine bj_ ?_ _ | refine aX_ ?_ | refine aU_ ?_ _)); exact BK101.out⟩, ⟨bq⟩⟩
         rw [if_pos c23] at H
         have c23b0 : decide (x6_3 < (y102.size : Int)) = true := decide_eq_true c23
         clear c23
         (first | rw [c23b0] | (simp only [i64_w, i32_w]; rw [c23b0]) | (simp only [c23b1, Bool.not_true, Bool.not_false]) | (simp only [c23b0, Bool.not_true, Bool.not_false]) | skip)
         by_cases c24 : 0 ≤ x6_3
         rotate_left
         ·rw [if_neg c24] at H
          exact absurd H (by simp)
         rw [if_pos c24] at H
         have c24b0 : decide (0 ≤ x6_3) = true := decide_eq_true c24
         clear c24
         by_cases c26 : (bt y102 x6_3) = 32
         rotate_left
         ·rw [if_neg c26] at H
          have c26b0 : ((bt y102 x6_3) == 32) = false := beq_eq_false_iff_ne.mpr c26
          have c26b1 : ((bt y102 x6_3) != 32) = true := bne_iff_ne.mpr c26
          have H' := Aside0.mk H
          clear H
          have p25 : 0 ≤ (x6_3 : Int) := of_decide_eq_true (by assumption)
          have q25 : x6_3 < (y102.size : Int) := of_decide_eq_true (by assumption)
          have hx25 := bt_at y102 x6_3
          replace p25 := eq_true p25
          replace q25 := eq_true q25
          go_wp2
          go_roundg k3
          case measure => have := HJ1.out; have := HJ16.out; have := HK3.out; omega
          case rel => exact ⟨(wrap64 (x6_3 + 1)), (by first | rfl | (simp; done) | (simp [*]; done)), H', ⟨by have := HJ1.out; have := HJ16.out; have := HK3.out; omega⟩, ⟨by (with_reducible repeat (first | refine bj_ ?_ _ | refine aX_ ?_ | refine aU_ ?_ _)); exact BK101.out⟩, ⟨bq⟩⟩
         rw [if_pos c26] at H
         have c26b0 : ((bt y102 x6_3) == 32) = true := beq_iff_eq.mpr c26
         have c26b1 : ((bt y102 x6_3) != 32) = false := bne_eq_false_iff_eq.mpr c26
         clear c26
         have H' := Aside0.mk H
         clear H
         have p25 : 0 ≤ (x6_3 : Int) := of_decide_eq_true (by assumption)
         have q25 : x6_3 < (y102.size : Int) := of_decide_eq_true (by assumption)
         have hx25 := bt_at y102 x6_3
         replace p25 := eq_true p25
         replace q25 := eq_true q25
         go_wp2
         go_meet
         case rel => exact ⟨_, (x6_3), (by first | rfl | (simp; done) | (simp [*]; done)), H', ⟨by have := HJ1.out; have := HJ16.out; have := HK3.out; first | omega | exact Nat.le_refl _⟩, ⟨by (with_reducible repeat (first | refine bj_ ?_ _ | refine aX_ ?_ | refine aU_ ?_ _)); exact BK101.out⟩, ⟨bq⟩⟩
      case rest =>
       clear HC22
       obtain ⟨kq, x6_21, rfl, HA, HJ21, BK101, HB⟩ := hcut
       cases kq with
       | zero => exact absurd HA.out (by simp [ai_.j4])
       | succ kj21 =>
        have H := HA.out
        clear HA
        simp only [ai_.j4] at H
        by_cases c27 : x6_21 ≥ (y102.size : Int)
        rotate_left
        ·rw [if_neg c27] at H
         have c27b0 : decide ((y102.size : Int) ≤ x6_21) = false := decide_eq_false c27
         clear c27
         by_cases c29 : 0 ≤ x5_16
         rotate_left
         ·rw [if_neg c29] at H
          exact absurd H (by simp)
         rw [if_pos c29] at H
         have c29b0 := eq_true c29
         have c29b1 : decide (0 ≤ x5_16) = true := decide_eq_true c29
         clear c29
         by_cases c30 : x5_16 ≤ (y102.size : Int)
         rotate_left
         ·rw [if_neg c30] at H
          exact absurd H (by simp)
         rw [if_pos c30] at H
         have c30b0 := eq_true c30
         have c30b1 : decide (x5_16 ≤ (y102.size : Int)) = true := decide_eq_true c30
         clear c30
         obtain ⟨y106, hy106⟩ : ∃ y_ : ByteArray, y_ = (y102.extract 0 (x5_16 : Int).toNat) := ⟨_, rfl⟩
         replace H : (if 0 ≤ (wrap64 (x5_16 + 1)) then (if (wrap64 (x5_16 + 1)) ≤ x6_21 then (if x6_21 ≤ (y102.size : Int) then ((some (y102.extract ((wrap64 (x5_16 + 1)) : Int).toNat (x6_21 : Int).toNat : ByteArray)).bind fun y107 => (if 0 ≤ (wrap64 (x6_21 + 1)) then (if (wrap64 (x6_21 + 1)) ≤ (y102.size : Int) then ((some (y102.extract ((wrap64 (x6_21 + 1)) : Int).toNat y102.size : ByteArray)).bind fun y108 => ((ay_.f kj21 [(⟨y106, y107, y108⟩ : S43)]).bind fun t110 => (if t110 = true then (some (y106, y107, y108, 0)) else (some ((⟨#[]⟩ : ByteArray), (⟨#[]⟩ : ByteArray), (⟨#[]⟩ : ByteArray), 9))))) else (none)) else (none))) else (none)) else (none)) else (none)) = some (r1, r2, r3, r4) := by first | (rw [hy106]; with_reducible exact H) | (have H2_ := (Option.bind_some _ _).symm.trans H; rw [hy106]; with_reducible exact H2_) | (have H2_ := (Option.bind_some _ _).symm.trans H; with_reducible exact H2_) | with_reducible exact H | (rw [hy106]; exact H) | exact H
         have Ny106 := Aside0.mk hy106
         clear hy106
         have Sy106 := Ny106.out.symm
         obtain ⟨ji31, hji31⟩ : ∃ j_ : Int, (wrap64 (x5_16 + 1)) = j_ := ⟨_, rfl⟩
         replace H : (if 0 ≤ (ji31) then (if (ji31) ≤ x6_21 then (if x6_21 ≤ (y102.size : Int) then ((some (y102.extract ((ji31) : Int).toNat (x6_21 : Int).toNat : ByteArray)).bind fun y107 => (if 0 ≤ (wrap64 (x6_21 + 1)) then (if (wrap64 (x6_21 + 1)) ≤ (y102.size : Int) then ((some (y102.extract ((wrap64 (x6_21 + 1)) : Int).toNat y102.size : ByteArray)).bind fun y108 => ((ay_.f kj21 [(⟨y106, y107, y108⟩ : S43)]).bind fun t110 => (if t110 = true then (some (y106, y107, y108, 0)) else (some ((⟨#[]⟩ : ByteArray), (⟨#[]⟩ : ByteArray), (⟨#[]⟩ : ByteArray), 9))))) else (none)) else (none))) else (none)) else (none)) else (none)) = some (r1, r2, r3, r4) := by first | (rw [hji31] at H; exact H) | (simp only [hji31] at H ⊢; exact H)
         have hji31w : (IntKind.i64.wrap (x5_16 + 1)) = ji31 := (i64_w _).trans hji31
         by_cases c32 : 0 ≤ (ji31)
         rotate_left
         ·rw [if_neg c32] at H
          exact absurd H (by simp)
         rw [if_pos c32] at H
         have c32b0 := eq_true c32
         have c32b1 : decide (0 ≤ (ji31)) = true := decide_eq_true c32
         clear c32
         by_cases c33 : (ji31) ≤ x6_21
         rotate_left
         ·rw [if_neg c33] at H
          exact absurd H (by simp)
         rw [if_pos c33] at H
         have c33b0 := eq_true c33
         have c33b1 : decide ((ji31) ≤ x6_21) = true := decide_eq_true c33
         clear c33
         by_cases c34 : x6_21 ≤ (y102.size : Int)
         rotate_left
         ·rw [if_neg c34] at H
          exact absurd H (by simp)
         rw [if_pos c34] at H
         have c34b0 := eq_true c34
         have c34b1 : decide (x6_21 ≤ (y102.size : Int)) = true := decide_eq_true c34
         clear c34
         obtain ⟨y107, hy107⟩ : ∃ y_ : ByteArray, y_ = (y102.extract ((ji31) : Int).toNat (x6_21 : Int).toNat) := ⟨_, rfl⟩
         replace H : (if 0 ≤ (wrap64 (x6_21 + 1)) then (if (wrap64 (x6_21 + 1)) ≤ (y102.size : Int) then ((some (y102.extract ((wrap64 (x6_21 + 1)) : Int).toNat y102.size : ByteArray)).bind fun y108 => ((ay_.f kj21 [(⟨y106, y107, y108⟩ : S43)]).bind fun t110 => (if t110 = true then (some (y106, y107, y108, 0)) else (some ((⟨#[]⟩ : ByteArray), (⟨#[]⟩ : ByteArray), (⟨#[]⟩ : ByteArray), 9))))) else (none)) else (none)) = some (r1, r2, r3, r4) := by first | (rw [hy107]; with_reducible exact H) | (have H2_ := (Option.bind_some _ _).symm.trans H; rw [hy107]; with_reducible exact H2_) | (have H2_ := (Option.bind_some _ _).symm.trans H; with_reducible exact H2_) | with_reducible exact H | (rw [hy107]; exact H) | exact H
         have Ny107 := Aside0.mk hy107
         clear hy107
         have Sy107 := Ny107.out.symm
         obtain ⟨ji35, hji35⟩ : ∃ j_ : Int, (wrap64 (x6_21 + 1)) = j_ := ⟨_, rfl⟩
         replace H : (if 0 ≤ (ji35) then (if (ji35) ≤ (y102.size : Int) then ((some (y102.extract ((ji35) : Int).toNat y102.size : ByteArray)).bind fun y108 => ((ay_.f kj21 [(⟨y106, y107, y108⟩ : S43)]).bind fun t110 => (if t110 = true then (some (y106, y107, y108, 0)) else (some ((⟨#[]⟩ : ByteArray), (⟨#[]⟩ : ByteArray), (⟨#[]⟩ : ByteArray), 9))))) else (none)) else (none)) = some (r1, r2, r3, r4) := by first | (rw [hji35] at H; exact H) | (simp only [hji35] at H ⊢; exact H)
         have hji35w : (IntKind.i64.wrap (x6_21 + 1)) = ji35 := (i64_w _).trans hji35
         by_cases c36 : 0 ≤ (ji35)
         rotate_left
         ·rw [if_neg c36] at H
          exact absurd H (by simp)
         rw [if_pos c36] at H
         have c36b0 := eq_true c36
         have c36b1 : decide (0 ≤ (ji35)) = true := decide_eq_true c36
         clear c36
         by_cases c37 : (ji35) ≤ (y102.size : Int)
         rotate_left
         ·rw [if_neg c37] at H
          exact absurd H (by simp)
         rw [if_pos c37] at H
         have c37b0 := eq_true c37
         have c37b1 : decide ((ji35) ≤ (y102.size : Int)) = true := decide_eq_true c37
         clear c37
         obtain ⟨y108, hy108⟩ : ∃ y_ : ByteArray, y_ = (y102.extract ((ji35) : Int).toNat y102.size) := ⟨_, rfl⟩
         replace H : ((ay_.f kj21 [(⟨y106, y107, y108⟩ : S43)]).bind fun t110 => (if t110 = true then (some (y106, y107, y108, 0)) else (some ((⟨#[]⟩ : ByteArray), (⟨#[]⟩ : ByteArray), (⟨#[]⟩ : ByteArray), 9)))) = some (r1, r2, r3, r4) := by first | (rw [hy108]; with_reducible exact H) | (have H2_ := (Option.bind_some _ _).symm.trans H; rw [hy108]; with_reducible exact H2_) | (have H2_ := (Option.bind_some _ _).symm.trans H; with_reducible exact H2_) | with_reducible exact H | (rw [hy108]; exact H) | exact H
         have Ny108 := Aside0.mk hy108
         clear hy108
         have Sy108 := Ny108.out.symm
         replace H := Option.bind_eq_some_iff.mp H
         obtain ⟨t110, A380, H⟩ := H
         (try dsimp only at H)
         have A38 := Aside0.mk A380
         clear A380
         have HC39 := Aside0.mk H
         clear H
         try go_wp2
         (try (rw [cS_ wc]; generalize hq_ : World.drewN wc _ = wc; have n0_ : Aside0 (wc.heap[gb101]? = some (.cells #[.string (⟨#[]⟩ : ByteArray), .string (⟨#[]⟩ : ByteArray), .string (⟨#[]⟩ : ByteArray)] 43 (0, 0))) := ⟨by rw [← hq_]; exact (kz BK101.out)⟩; have n1_ : Aside0 (Below w.heap.size w wc) := ⟨by rw [← hq_]; exact (bq)⟩; clear BK101 HB hq_; have BK101 := n0_; have HB := n1_; clear n0_ n1_))
         have n0_ := Aside0.mk (aX_ BK101.out)
         have n1_ := Aside0.mk (bD_ HB.out)
         clear BK101
         clear HB
         have BK101 := n0_
         have HB := n1_
         clear n0_ n1_
         refine cW_ (n := 15) (S := fun w' => True) (ds := []) #[f_,f_,f_,f_,f_,f_,f_,f_,f_,f_,f_,f_,f_,f_,f_] (by kernel_rfl) rfl rfl trivial (fun hHeld => ?_); refine ce_ ai_.tab14 ai_.bits14 (fun HT_ HW_ => ?_)
         generalize wc.drew = w40 at BK101 HB hHeld ⊢
         refine pu 0 57 #[t_,f_,f_,f_,f_,f_,f_,f_,f_,f_,f_,f_,f_,f_,f_] HT_ ?_
         refine pu 1 58 #[t_,t_,f_,f_,f_,f_,f_,f_,f_,f_,f_,f_,f_,f_,f_] HT_ ?_
         refine pu 2 59 #[t_,t_,t_,f_,f_,f_,f_,f_,f_,f_,f_,f_,f_,f_,f_] HT_ ?_
         refine pu 3 60 #[t_,t_,t_,t_,f_,f_,f_,f_,f_,f_,f_,f_,f_,f_,f_] HT_ ?_
         refine pu 4 61 #[t_,t_,t_,t_,t_,f_,f_,f_,f_,f_,f_,f_,f_,f_,f_] HT_ ?_
         refine pu 5 62 #[t_,t_,t_,t_,t_,t_,f_,f_,f_,f_,f_,f_,f_,f_,f_] HT_ ?_
         refine pu 6 63 #[t_,t_,t_,t_,t_,t_,t_,f_,f_,f_,f_,f_,f_,f_,f_] HT_ ?_
         refine pu 7 64 #[t_,t_,t_,t_,t_,t_,t_,t_,f_,f_,f_,f_,f_,f_,f_] HT_ ?_
         refine pu 8 65 #[t_,t_,t_,t_,t_,t_,t_,t_,t_,f_,f_,f_,f_,f_,f_] HT_ ?_
         refine pu 9 66 #[t_,t_,t_,t_,t_,t_,t_,t_,t_,t_,f_,f_,f_,f_,f_] HT_ ?_
         refine pu 10 67 #[t_,t_,t_,t_,t_,t_,t_,t_,t_,t_,t_,f_,f_,f_,f_] HT_ ?_
         refine pu 11 68 #[t_,t_,t_,t_,t_,t_,t_,t_,t_,t_,t_,t_,f_,f_,f_] HT_ ?_
         refine pu 12 69 #[t_,t_,t_,t_,t_,t_,t_,t_,t_,t_,t_,t_,t_,f_,f_] HT_ ?_
         refine one_ (i := 13) (N := some 7) #[t_,t_,t_,t_,t_,t_,t_,t_,t_,t_,t_,t_,t_,t_,f_] rfl rfl (bZ_ HT_.out (by kernel_rfl)) (by decide) (fun K hK => ?_)
         refine de_ ?hg (N := 7) ?hd (cs := #[.string (⟨#[]⟩ : ByteArray), .string (⟨#[]⟩ : ByteArray), .string (⟨#[]⟩ : ByteArray)]) (t := 43) ?hr ?_; (case hd => rfl); (case hg => rfl); (case hr => (go_simp; try rfl))
         intro gb109 hg w41 hbox hb
         have n0_ := Aside0.mk (az_ (kz BK101.out) hb)
         have n1_ := Aside0.mk (ah_ (bq) hb)
         have n2_ := Aside0.mk (hbox)
         have n3_ := Aside0.mk ((by rw [hg]; exact (ak_ (bq)) : w.heap.size ≤ gb109))
         have n4_ := Aside0.mk ((by rw [hg]; exact (ak_ (bq)) : w.heap.size ≤ gb109))
         have n5_ := Aside0.mk ((by rw [hg]; exact Nat.ne_of_lt (bX_ (kz BK101.out)) : gb101 ≠ gb109))
         have n6_ := Aside0.mk ((by rw [hg]; exact Nat.ne_of_gt (bX_ (kz BK101.out)) : gb109 ≠ gb101))
         clear BK101
         clear HB
         have BK101 := n0_
         have HB := n1_
         have BK109 := n2_
         have GW109 := n3_
         have GE109 := n4_
         have NB101_109 := n5_
         have NB109_101 := n6_
         clear n0_ n1_ n2_ n3_ n4_ n5_ n6_
         clear hb hbox hg
         refine hK.out _ _ trivial (fun hHeld => ?_)
         clear hK K
         refine norm_ (a' := ?_) ?_ ?_
         rotate_left
         ·show Act.put _ (some 7) _ = _
          simp only [Act.put, lsa_, ls0_, ls1_, i64_w, i32_w]
          rfl
         refine one_ (i := 14) (N := none) #[t_,t_,t_,t_,t_,t_,t_,t_,t_,t_,t_,t_,t_,t_,t_] rfl rfl (bZ_ HT_.out (by kernel_rfl)) (by decide) (fun K hK => ?_)
         have hs42 : w41.cell? ⟨gb109, 0, none⟩ = some (.string (⟨#[]⟩ : ByteArray)) := (ar_ BK109.out 0).trans rfl
         have hfs42 := ba_ BK109.out 0
         have hns42_0 := NB101_109.out
         have hms42_0 := NB109_101.out
         have hs43 : w41.cell? ⟨gb109, 1, none⟩ = some (.string (⟨#[]⟩ : ByteArray)) := (ar_ BK109.out 1).trans rfl
         have hfs43 := ba_ BK109.out 1
         have hns43_0 := NB101_109.out
         have hms43_0 := NB109_101.out
         have hs44 : w41.cell? ⟨gb109, 2, none⟩ = some (.string (⟨#[]⟩ : ByteArray)) := (ar_ BK109.out 2).trans rfl
         have hfs44 := ba_ BK109.out 2
         have hns44_0 := NB101_109.out
         have hms44_0 := NB109_101.out
         refine skip_ (w1 := ?_) (by rfl) rfl ?_ ?_
         rotate_left
         ·go_simp
          rfl
         refine hK.out _ _ trivial (fun hHeld => ?_)
         clear hK K
         refine done_ (cO_ HT_.out (by kernel_rfl)) ?_
         go_upto_if 71 with (first | ((with_reducible refine al_ (f := 49) rfl ?_); refine bf_ (some 70) rfl rfl Tryd.func49 (by kernel_rfl) rfl #[.pointer (some (Addr.add ⟨gb109, 0, none⟩ 0))] rfl (by first | rfl | (simp only [lma_, lmc_, lmn_]; first | done | rfl)) ?_; (with_reducible refine (ay_.calls kj21 _ [(⟨y106, y107, y108⟩ : S43)] t110 _ ?side1 A38.out).mono ?_); (case side1 => exact (RPW.C_blk (cs := [.string y106, .string y107, .string y108]) (t := 43) (g := gb109) (by exact kj3_2 (kj3_1 (kj3_0 (kz BK109.out)))) (k43_mk _ (⟨y106, y107, y108⟩ : S43)))); rintro e w' ⟨rfl, ⟨nd, rfl⟩⟩; refine ⟨_, rfl, ?_⟩))
         (try simp only [Act.put, lsa_, ls0_, ls1_])
         have H := HC39.out
         clear HC39
         by_cases c45 : t110 = true
         rotate_left
         ·replace c45 := Bool.eq_false_iff.mpr c45
          subst c45
          have H1 : (some ((⟨#[]⟩ : ByteArray), (⟨#[]⟩ : ByteArray), (⟨#[]⟩ : ByteArray), 9)) = some (r1, r2, r3, r4) := by rw [if_neg (show ¬ (false = true) by decide)] at H; exact H
          clear H
          have H := H1
          clear H1
          simp only [Option.some.injEq, Prod.mk.injEq] at H
          obtain ⟨rfl, rfl, rfl, rfl⟩ := H
          have hnb49 := NB101_109.out
          have hnc49 := NB109_101.out
          obtain ⟨hcz50_0, hcz50_1, hcz50_2⟩ := cz3_ BK101.out
          obtain ⟨hfz50_0, hfz50_1, hfz50_2⟩ := fz3_ BK101.out
          go_wp2
          refine bodyPost_ret (cy_ rfl _ _ gb101 43 #[.string (⟨#[]⟩ : ByteArray), .string (⟨#[]⟩ : ByteArray), .string (⟨#[]⟩ : ByteArray)] (0, 0) _ rfl (by exact kj3_2 (kj3_1 (kj3_0 (kf (kf (kf (kz BK101.out) NB101_109.out) NB101_109.out) NB101_109.out)))) Tryd.underlying43 rfl (by kernel_rfl)) rfl ?_
          exact ⟨by first | rfl | (simp [aw_, av_] <;> rfl) | (simp only [← hji31, ← hji35]; first | rfl | (simp [aw_, av_] <;> rfl)) | (simp [*, aw_, av_] <;> rfl), bq⟩
         subst c45
         have H1 : (some (y106, y107, y108, 0)) = some (r1, r2, r3, r4) := by rw [if_pos rfl] at H; exact H
         clear H
         have H := H1
         clear H1
         simp only [Option.some.injEq, Prod.mk.injEq] at H
         obtain ⟨rfl, rfl, rfl, rfl⟩ := H
         have hnb46 := NB109_101.out
         have hnc46 := NB101_109.out
         obtain ⟨hcz47_0, hcz47_1, hcz47_2⟩ := cz3_ BK109.out
         obtain ⟨hfz47_0, hfz47_1, hfz47_2⟩ := fz3_ BK109.out
         obtain ⟨hcz48_0, hcz48_1, hcz48_2⟩ := cz3_ BK101.out
         obtain ⟨hfz48_0, hfz48_1, hfz48_2⟩ := fz3_ BK101.out
         go_wp2
         refine bodyPost_ret (cy_ rfl _ _ gb101 43 #[.string y106, .string y107, .string y108] (0, 0) _ rfl (by exact kj3_2 (kj3_1 (kj3_0 (kf (kf (kf (kz BK101.out) NB101_109.out) NB101_109.out) NB101_109.out)))) Tryd.underlying43 rfl (by kernel_rfl)) rfl ?_
         exact ⟨by first | rfl | (simp [aw_, av_] <;> rfl) | (simp only [← hji31, ← hji35]; first | rfl | (simp [aw_, av_] <;> rfl)) | (simp [*, aw_, av_] <;> rfl), bq⟩
        rw [if_pos c27] at H
        have c27b0 : decide ((y102.size : Int) ≤ x6_21) = true := decide_eq_true c27
        clear c27
        simp only [Option.some.injEq, Prod.mk.injEq] at H
        obtain ⟨rfl, rfl, rfl, rfl⟩ := H
        obtain ⟨hcz28_0, hcz28_1, hcz28_2⟩ := cz3_ BK101.out
        obtain ⟨hfz28_0, hfz28_1, hfz28_2⟩ := fz3_ BK101.out
        go_wp2
        refine bodyPost_ret (cy_ rfl _ _ gb101 43 #[.string (⟨#[]⟩ : ByteArray), .string (⟨#[]⟩ : ByteArray), .string (⟨#[]⟩ : ByteArray)] (0, 0) _ rfl (by exact kj3_2 (kj3_1 (kj3_0 (kz BK101.out)))) Tryd.underlying43 rfl (by kernel_rfl)) rfl ?_
        exact ⟨by first | rfl | (simp [*, aw_, av_] <;> rfl), bq⟩
   subst c7
   have H1 : (some ((⟨#[]⟩ : ByteArray), (⟨#[]⟩ : ByteArray), (⟨#[]⟩ : ByteArray), 9)) = some (r1, r2, r3, r4) := by rw [if_pos rfl] at H; exact H
   clear H
   have H := H1
   clear H1
   simp only [Option.some.injEq, Prod.mk.injEq] at H
   obtain ⟨rfl, rfl, rfl, rfl⟩ := H
   obtain ⟨hcz8_0, hcz8_1, hcz8_2⟩ := cz3_ BK101.out
   obtain ⟨hfz8_0, hfz8_1, hfz8_2⟩ := fz3_ BK101.out
   go_wp2
   refine bodyPost_ret (cy_ rfl _ _ gb101 43 #[.string (⟨#[]⟩ : ByteArray), .string (⟨#[]⟩ : ByteArray), .string (⟨#[]⟩ : ByteArray)] (0, 0) _ rfl (by exact kj3_2 (kj3_1 (kj3_0 (kz BK101.out)))) Tryd.underlying43 rfl (by kernel_rfl)) rfl ?_
   exact ⟨by first | rfl | (simp [*, aw_, av_] <;> rfl), bq⟩
end Go.Proofs.YtjebkmfljcanlaaDoor.Q
namespace Go.Proofs.YtjebkmfljcanlaaDoor.Q
open Go.RowKit Go.Proofs.YtjebkmfljcanlaaDoorW.PrintWords Go.Proofs.YtjebkmfljcanlaaDoorW.PrintLast Go.Proofs.YtjebkmfljcanlaaDoorW.PrintMore
theorem index_miss (c : UInt8) : ∀ Y : List UInt8, c ∉ Y → Go.Lib.index Y [c] = -1
 | [], _ => by simp [Go.Lib.index]
 | b :: Y, h => by
  have hb : ¬ c = b := fun e => h (by simp [e])
  have ih := index_miss c Y (fun q => h (by simp [q]))
  have hp : ([c] : List UInt8).isPrefixOf (b :: Y) = false := by simp [List.isPrefixOf, hb]
  rw [Go.Lib.index, hp, ih]
  simp
theorem index_hit (c : UInt8) : ∀ A B : List UInt8, c ∉ A → Go.Lib.index (A ++ c :: B) [c] = (A.length : Int)
 | [], B, _ => by rw [List.nil_append, Go.Lib.index]; simp [List.isPrefixOf]
 | b :: A, B, h => by
  have hb : ¬ c = b := fun e => h (by simp [e])
  have ih := index_hit c A B (fun q => h (by simp [q]))
  have hp : ([c] : List UInt8).isPrefixOf (b :: (A ++ c :: B)) = false := by simp [List.isPrefixOf, hb]
  rw [List.cons_append, Go.Lib.index, hp, ih]
  simp
theorem splitK_miss (c : UInt8) (Y : List UInt8) (h : c ∉ Y) (k : Nat) : Go.Lib.splitK [c] 0 k Y = [Y] := by
 cases k with
 | zero => rfl
 | succ k =>
  rw [Go.Lib.splitK, index_miss c Y h]; try rfl
theorem splitK_hit (c : UInt8) (A B : List UInt8) (h : c ∉ A) (k : Nat) : Go.Lib.splitK [c] 0 (k + 1) (A ++ c :: B) = A :: Go.Lib.splitK [c] 0 k B := by
 have hne : ¬ (((A.length : Nat) : Int) == -1) = true := fun e => by have := beq_iff_eq.1 e; omega
 rw [Go.Lib.splitK, index_hit c A B h, if_neg hne]
 simp
theorem splitN_f (Y : List UInt8) (hY : Y.length ≤ 1048576) (c : UInt8) : strings_SplitN.f (Bs Y) (Bs [c]) 3 = some ((Go.Lib.splitK [c] 0 (min 3 (Y.length + 1) - 1) Y).map Bs) := by
 unfold strings_SplitN.f
 rw [if_pos ⟨by rw [bp_]; omega, by rw [bp_]; simp, by omega, by omega⟩]
 congr 1
 have h := Go.Lib.splitB_data (Bs [c]) 0 (min 3 (Y.length + 1) - 1) (Bs Y)
 rw [Bs_list, Bs_list] at h
 rw [← h, List.map_map, bp_]
 conv => lhs; rw [← List.map_id (Go.Lib.splitB _ _ _ _)]
 apply List.map_congr_left
 intro x _
 exact (cU_ x).symm
theorem first_of (c : UInt8) : ∀ Y : List UInt8, c ∉ Y ∨ ∃ A B, Y = A ++ c :: B ∧ c ∉ A
 | [] => .inl (by simp)
 | b :: Y => by
  by_cases h : c = b
  rotate_left
  ·rcases first_of c Y with q | ⟨A, B, e, q⟩
   ·exact .inl (by simp [h, q])
   ·exact .inr ⟨b :: A, B, by simp [e], by simp [h, q]⟩
  exact .inr ⟨[], Y, by simp [h], by simp⟩
abbrev P4 := ByteArray × ByteArray × ByteArray × Int
theorem bt_ne (Y : List UInt8) (i : Nat) (h : i < Y.length) (hn : Y[i] ≠ 32) : ¬ bt (Bs Y) (i : Int) = 32 := by
 rw [bt_in Y i h]
 intro e
 exact hn ((u8_eq Y[i] 32 (by omega)).1 e)
theorem bt_sp (Y : List UInt8) (i : Nat) (h : i < Y.length) (hn : Y[i] = 32) : bt (Bs Y) (i : Int) = 32 := by
 rw [bt_in Y i h, hn]
 rfl
theorem seek0 (Y : List UInt8) (hY : Y.length ≤ 1048576) (r : P4) : ∀ (A P R : List UInt8), Y = P ++ A ++ R → (32 : UInt8) ∉ A → (R = [] ∨ ∃ B, R = 32 :: B) → Ev (fun k => ai_.j2 k (Bs Y) ((P.length + A.length : Nat) : Int)) r → Ev (fun k => ai_.l0 k (Bs Y) (P.length : Int)) r := by
 intro A
 induction A with
 | nil =>
  intro P R h hA hR hj
  refine bb_ ?_
  simp only [ai_.l0]
  rw [bp_]
  have hl : Y.length = P.length + R.length := by rw [h]; simp
  rcases hR with rfl | ⟨B, rfl⟩
  ·exact Ev_f (by simp at hl; omega) (by simpa using hj)
  ·simp only [List.length_cons] at hl
   refine Ev_t (by omega) (Ev_t (by omega) (Ev_t (bt_sp Y P.length (by omega) (by simp [h])) (by simpa using hj)))
 | cons b A ih =>
  intro P R h hA hR hj
  refine bb_ ?_
  simp only [ai_.l0]
  rw [bp_]
  have hl : Y.length = P.length + (A.length + 1) + R.length := by rw [h]; simp; omega
  refine Ev_t (by omega) (Ev_t (by omega) (Ev_f (bt_ne Y P.length (by omega) (by simp [h]; exact fun e => hA (by simp [e]))) ?_))
  rw [wr64s _ (by omega)]
  have := ih (P ++ [b]) R (by rw [h]; simp) (fun q => hA (by simp [q])) hR (by
   have e : (P ++ [b]).length + A.length = P.length + (b :: A).length := by simp; omega
   rw [e]; exact hj)
  simpa using this
theorem seek1 (Y : List UInt8) (hY : Y.length ≤ 1048576) (x5 : Int) (r : P4) : ∀ (A P R : List UInt8), Y = P ++ A ++ R → (32 : UInt8) ∉ A → (R = [] ∨ ∃ B, R = 32 :: B) → Ev (fun k => ai_.j4 k (Bs Y) x5 ((P.length + A.length : Nat) : Int)) r → Ev (fun k => ai_.l1 k (Bs Y) x5 (P.length : Int)) r := by
 intro A
 induction A with
 | nil =>
  intro P R h hA hR hj
  refine bb_ ?_
  simp only [ai_.l1]
  rw [bp_]
  have hl : Y.length = P.length + R.length := by rw [h]; simp
  rcases hR with rfl | ⟨B, rfl⟩
  ·exact Ev_f (by simp at hl; omega) (by simpa using hj)
  ·simp only [List.length_cons] at hl
   refine Ev_t (by omega) (Ev_t (by omega) (Ev_t (bt_sp Y P.length (by omega) (by simp [h])) (by simpa using hj)))
 | cons b A ih =>
  intro P R h hA hR hj
  refine bb_ ?_
  simp only [ai_.l1]
  rw [bp_]
  have hl : Y.length = P.length + (A.length + 1) + R.length := by rw [h]; simp; omega
  refine Ev_t (by omega) (Ev_t (by omega) (Ev_f (bt_ne Y P.length (by omega) (by simp [h]; exact fun e => hA (by simp [e]))) ?_))
  rw [wr64s _ (by omega)]
  have := ih (P ++ [b]) R (by rw [h]; simp) (fun q => hA (by simp [q])) hR (by
   have e : (P ++ [b]).length + A.length = P.length + (b :: A).length := by simp; omega
   rw [e]; exact hj)
  simpa using this
abbrev no4 (c : Int) : P4 := ((⟨#[]⟩ : ByteArray), (⟨#[]⟩ : ByteArray), (⟨#[]⟩ : ByteArray), c)
theorem ext3 (Y : List UInt8) (n m : Nat) (a p q : List UInt8) (h : Y = a ++ p ++ q) (h1 : a.length = n) (h2 : n + p.length = m) : (Bs Y).extract n m = Bs p := by
 rw [← cU_ ((Bs Y).extract n m), Go.Lib.extract_data, Bs_list, h]
 congr 1
 subst h1 h2
 simp
theorem rest_ev (Y : List UInt8) (hY : Y.length ≤ 1048576) : ∃ r : P4, Ev (fun k => ai_.l0 k (Bs Y) 0) r ∧
  ((∃ A C D, Y = A ++ 32 :: (C ++ 32 :: D) ∧ strings_SplitN.f (Bs Y) (⟨#[32]⟩ : ByteArray) 3 = some [Bs A, Bs C, Bs D] ∧ ∃ b, (∀ k, 2000000 < k → aT_.f k (Bs A) (Bs C) (Bs D) = some b ∧ ay_.f k [⟨Bs A, Bs C, Bs D⟩] = some b) ∧ r = if b = true then (Bs A, Bs C, Bs D, 0) else no4 9) ∨
   (∃ l : List ByteArray, l.length < 3 ∧ strings_SplitN.f (Bs Y) (⟨#[32]⟩ : ByteArray) 3 = some l ∧ r = no4 9)) := by
 have hs : (⟨#[32]⟩ : ByteArray) = Bs [32] := rfl
 rw [hs, splitN_f Y hY 32]
 rcases first_of 32 Y with h | ⟨A, B, h, hA⟩
 ·refine ⟨no4 9, ?_, .inr ⟨_, ?_, rfl, rfl⟩⟩
  ·refine seek0 Y hY _ Y [] [] (by simp) h (.inl rfl) (bb_ ?_)
   simp only [ai_.j2]
   simp only [List.length_nil, Nat.zero_add]
   rw [wr64s _ (by omega)]
   refine bb_ ?_
   simp only [ai_.l1]
   rw [bp_]
   refine Ev_f (by omega) (bb_ ?_)
   simp only [ai_.j4]
   rw [bp_]
   exact Ev_t (by omega) (Ev_n rfl)
  ·rw [splitK_miss 32 Y h]; simp
 ·have hlA : Y.length = A.length + 1 + B.length := by rw [h]; simp; omega
  have sk : ∀ r, Ev (fun k => ai_.l1 k (Bs Y) (A.length : Int) ((A.length + 1 : Nat) : Int)) r → Ev (fun k => ai_.l0 k (Bs Y) 0) r := fun r hr => by
   refine seek0 Y hY r A [] (32 :: B) (by simp [h]) hA (.inr ⟨B, rfl⟩) (bb_ ?_)
   simp only [ai_.j2]
   simp only [List.length_nil, Nat.zero_add]
   rw [wr64s _ (by omega)]
   exact hr
  obtain ⟨m, hm⟩ : ∃ m, min 3 (Y.length + 1) - 1 = m + 1 := ⟨min 3 (Y.length + 1) - 2, by omega⟩
  rw [hm, h, splitK_hit 32 A B hA, ← h]
  rcases first_of 32 B with hB | ⟨C, D, hB, hC⟩
  ·refine ⟨no4 9, sk _ ?_, .inr ⟨_, ?_, rfl, rfl⟩⟩
   ·have := seek1 Y hY (A.length : Int) (no4 9) B (A ++ [32]) [] (by simp [h]) hB (.inl rfl) (bb_ (by
     simp only [ai_.j4]
     rw [bp_]
     exact Ev_t (by simp; omega) (Ev_n rfl)))
    simpa using this
   ·rw [splitK_miss 32 B hB]; simp
  ·have hlB : B.length = C.length + 1 + D.length := by rw [hB]; simp; omega
   have hm1 : m = 1 := by omega
   subst hm1
   rw [hB, splitK_hit 32 C D hC, Go.Lib.splitK]
   have hh : Y = A ++ 32 :: (C ++ 32 :: D) := by rw [h, hB]
   obtain ⟨b, hb⟩ := validB_ev (⟨Bs A, Bs C, Bs D⟩ : S43) (by show ((Bs D).size : Int) ≤ 1048576; rw [bp_]; omega)
   refine ⟨if b = true then (Bs A, Bs C, Bs D, 0) else no4 9, sk _ ?_, .inl ⟨A, C, D, hh, by simp, b, fun k hk => ⟨(hb k hk).2, (hb k hk).1⟩, rfl⟩⟩
   have := seek1 Y hY (A.length : Int) (if b = true then (Bs A, Bs C, Bs D, 0) else no4 9) C (A ++ [32]) (32 :: D) (by simp [hh]) hC (.inr ⟨D, rfl⟩) (bb_ (by
    simp only [ai_.j4]
    rw [bp_]
    have e1 : ((A ++ [32]).length + C.length : Nat) = A.length + 1 + C.length := by simp
    rw [e1, wr64s A.length (by omega), wr64s (A.length + 1 + C.length) (by omega)]
    refine Ev_f (by omega) (Ev_t (by omega) (Ev_t (by omega) (Ev_s (Ev_t (by omega) (Ev_t (by omega) (Ev_t (by omega) (Ev_s (Ev_t (by omega) (Ev_t (by omega) (Ev_s ?_))))))))))
    rw [Int.toNat_natCast, Int.toNat_natCast, Int.toNat_natCast, Int.toNat_natCast]
    rw [ext3 Y 0 A.length [] A (32 :: (C ++ 32 :: D)) (by simp [hh]) rfl (by simp)]
    rw [ext3 Y (A.length + 1) (A.length + 1 + C.length) (A ++ [32]) C (32 :: D) (by simp [hh]) (by simp) rfl]
    rw [ext3 Y (A.length + 1 + C.length + 1) Y.length (A ++ [32] ++ C ++ [32]) D [] (by simp [hh]) (by simp; omega) (by omega)]
    refine Ev_b (a := b) ⟨2000001, fun k hk => (hb k (by omega)).1⟩ ?_
    cases b with
    | true => exact Ev_t rfl (Ev_n rfl)
    | false => exact Ev_f (by decide) (Ev_n rfl)))
   simpa using this
theorem parse_ev (x : ByteArray) (hx : (x.size : Int) ≤ 1048576) : ∃ r : P4, Ev (fun k => ai_.f k x) r ∧ Ev (fun k => ax_.f k x) r ∧ (r.2.2.1.size : Int) ≤ 1048576 ∧ (r.2.2.2 = 0 → ∀ k, 2000000 < k → aT_.f k r.1 r.2.1 r.2.2.1 = some true ∧ ay_.f k [⟨r.1, r.2.1, r.2.2.1⟩] = some true) ∧ (r.2.2.2 ≠ 0 → r = no4 r.2.2.2) := by
 have no9 : Ev (fun k => ai_.j0 k x true) (no4 9) ∧ Ev (fun k => ax_.j0 k x true) (no4 9) := by
  constructor
  ·refine bb_ ?_; simp only [ai_.j0]; exact Ev_t (by first | exact True.intro | rfl) (Ev_n rfl)
  ·refine bb_ ?_; simp only [ax_.j0]; exact Ev_t (by first | exact True.intro | rfl) (Ev_n rfl)
 have bad : ∀ c : Int, c ≠ 0 → ((no4 c).2.2.1.size : Int) ≤ 1048576 ∧ ((no4 c).2.2.2 = 0 → ∀ k, 2000000 < k → aT_.f k (no4 c).1 (no4 c).2.1 (no4 c).2.2.1 = some true ∧ ay_.f k [⟨(no4 c).1, (no4 c).2.1, (no4 c).2.2.1⟩] = some true) ∧ ((no4 c).2.2.2 ≠ 0 → no4 c = no4 (no4 c).2.2.2) := fun c hc => ⟨by show ((0 : Nat) : Int) ≤ 1048576; omega, fun h => absurd h hc, fun _ => rfl⟩
 simp only [ai_.f, ax_.f]
 by_cases h6 : (x.size : Int) < 6
 ·exact ⟨no4 9, Ev_t h6 no9.1, Ev_t h6 no9.2, bad 9 (by decide)⟩
 by_cases h5 : (bt x 5 != 32) = true
 ·exact ⟨no4 9, Ev_f h6 (Ev_t (by omega) (by rw [h5]; exact no9.1)), Ev_f h6 (Ev_t (by omega) (by rw [h5]; exact no9.2)), bad 9 (by decide)⟩
 have h5' : (bt x 5 != 32) = false := by simpa using h5
 rw [h5']
 obtain ⟨Y, hY⟩ : ∃ Y, Y = (x.extract 6 x.size).data.toList := ⟨_, rfl⟩
 have hB : x.extract 6 x.size = Bs Y := by rw [hY, cU_]
 have hYl : Y.length ≤ 1048576 := by
  have : (Bs Y).size = Y.length := bp_ Y
  rw [← hB, ByteArray.size_extract] at this
  omega
 obtain ⟨n, n0, n1, c1, c2⟩ := crc_ev (Bs Y) (by rw [bp_]; omega)
 have f1 := five_spec n n0 n1
 have f2 := five_impl (Bs Y) n n0 n1 c2
 have go : ∃ r : P4, Ev (fun k => ai_.j0 k x false) r ∧ Ev (fun k => ax_.j0 k x false) r ∧ (r.2.2.1.size : Int) ≤ 1048576 ∧ (r.2.2.2 = 0 → ∀ k, 2000000 < k → aT_.f k r.1 r.2.1 r.2.2.1 = some true ∧ ay_.f k [⟨r.1, r.2.1, r.2.2.1⟩] = some true) ∧ (r.2.2.2 ≠ 0 → r = no4 r.2.2.2) := by
  by_cases hd : (x.extract 0 5).toList = (five n).toList
  case neg =>
   refine ⟨no4 10, bb_ ?_, bb_ ?_, bad 10 (by decide)⟩
   ·simp only [ai_.j0]
    rw [hB]
    exact Ev_f (by decide) (Ev_t (by omega) (Ev_s (Ev_t (by omega) (Ev_b c1 (Ev_b f1 (Ev_f hd (Ev_n rfl)))))))
   ·simp only [ax_.j0]
    rw [hB]
    exact Ev_f (by decide) (Ev_t (by omega) (Ev_s (Ev_t (by omega) (Ev_b f2 (Ev_f hd (Ev_n rfl))))))
  obtain ⟨r, s1, hr⟩ := rest_ev Y hYl
  have sp : Ev (fun k => ai_.j0 k x false) r := by
   refine bb_ ?_
   simp only [ai_.j0]
   rw [hB]
   exact Ev_f (by decide) (Ev_t (by omega) (Ev_s (Ev_t (by omega) (Ev_b c1 (Ev_b f1 (Ev_t hd s1))))))
  rcases hr with ⟨A, C, D, hYe, hsp, b, hb, rfl⟩ | ⟨l, hl, hsp, rfl⟩
  ·have e0 : rdOf ByteArray.empty [Bs A, Bs C, Bs D] 0 = Bs A := rfl
   have e1 : rdOf ByteArray.empty [Bs A, Bs C, Bs D] 1 = Bs C := rfl
   have e2 : rdOf ByteArray.empty [Bs A, Bs C, Bs D] 2 = Bs D := rfl
   have ip : Ev (fun k => ax_.j0 k x false) (if b = true then (Bs A, Bs C, Bs D, 0) else no4 9) := by
    refine bb_ ?_
    simp only [ax_.j0]
    rw [hB]
    refine Ev_f (by decide) (Ev_t (by omega) (Ev_s (Ev_t (by omega) (Ev_b f2 (Ev_t hd (Ev_b (Ev_c hsp) ?_))))))
    have l3 : ((([Bs A, Bs C, Bs D] : List ByteArray).length : Nat) : Int) = 3 := rfl
    rw [l3]
    refine Ev_f (by decide) (Ev_t (by decide) (Ev_t (by decide) (Ev_t (by decide) ?_)))
    rw [e0, e1, e2]
    refine Ev_b (a := b) ⟨2000001, fun k hk => (hb k (by omega)).1⟩ ?_
    cases b with
    | true => exact Ev_t rfl (Ev_n rfl)
    | false => exact Ev_f (by decide) (Ev_n rfl)
   cases b with
   | false => exact ⟨no4 9, sp, ip, bad 9 (by decide)⟩
   | true =>
    refine ⟨(Bs A, Bs C, Bs D, 0), sp, ip, ?_, fun _ k hk => hb k hk, fun h => absurd rfl h⟩
    show ((Bs D).size : Int) ≤ 1048576
    rw [bp_]
    have : Y.length = A.length + 1 + (C.length + 1 + D.length) := by rw [hYe]; simp; omega
    omega
  ·refine ⟨no4 9, sp, bb_ ?_, bad 9 (by decide)⟩
   simp only [ax_.j0]
   rw [hB]
   exact Ev_f (by decide) (Ev_t (by omega) (Ev_s (Ev_t (by omega) (Ev_b f2 (Ev_t hd (Ev_b (Ev_c hsp) (Ev_t (by omega) (Ev_n rfl))))))))
 obtain ⟨r, g1, g2, g3⟩ := go
 exact ⟨r, Ev_f h6 (Ev_t (by omega) g1), Ev_f h6 (Ev_t (by omega) g2), g3⟩
def lns (s : ByteArray) : List ByteArray := (spl 10 s.data.toList).map Bs
theorem lns_len (s : ByteArray) : 1 ≤ (lns s).length ∧ (lns s).length ≤ s.size + 1 := by
 unfold lns
 rw [List.length_map]
 have h1 := spl_len 10 s.data.toList
 have h2 := spl_ne 10 s.data.toList
 have h3 : s.data.toList.length = s.size := by rw [Array.length_toList]; rfl
 have h4 : 0 < (spl 10 s.data.toList).length := List.length_pos_iff.2 h2
 omega
theorem split_i (s : ByteArray) (hs : (s.size : Int) ≤ 1048576) : strings_Split.f s (⟨#[10]⟩ : ByteArray) = some (lns s) := split_f s hs 10
theorem cu_ (l : List S43) (i : Nat) (h : i < l.length) : aa_ l (i : Int) = l[i] := by unfold aa_; exact getD_in l _ i h
theorem rd_B (l : List S43) (i : Nat) (h : i < l.length) : aa_ l (i : Int) = l[i] := by unfold aa_; simp [List.getD, h]
theorem cmp_lt : ∀ l m : List UInt8, (Go.Lib.compareBytes l m < 0 ↔ Op.bytesLess l m = true) ∧ (Go.Lib.compareBytes l m = 0 ↔ l = m)
 | [], [] => by simp [Go.Lib.compareBytes, Op.bytesLess]
 | [], _ :: _ => by simp [Go.Lib.compareBytes, Op.bytesLess]
 | _ :: _, [] => by simp [Go.Lib.compareBytes, Op.bytesLess]
 | a :: x, b :: y => by
  obtain ⟨h1, h2⟩ := cmp_lt x y
  unfold Go.Lib.compareBytes Op.bytesLess
  by_cases hab : a < b
  rotate_left
  ·by_cases hba : b < a
   rotate_left
   ·have he : a = b := UInt8.le_antisymm (UInt8.not_lt.1 hba) (UInt8.not_lt.1 hab)
    subst he
    simp only [hab, if_false, h1, h2]
    simp
   have hne : a ≠ b := fun e => by subst e; exact absurd hba (UInt8.lt_irrefl _)
   simp [hab, hba, hne]
  have hne : a ≠ b := fun e => by subst e; exact absurd hab (UInt8.lt_irrefl _)
  simp [hab, hne]
theorem before_ev (x y : S43) : ∃ c, bx_.f [x] [y] = some (!decide (c ≥ (0 : Int))) ∧ bi_.f x.f0 x.f1 x.f2 y.f0 y.f1 y.f2 = some c := by
 have h1 : aa_ [x] 0 = x := rfl
 have h2 : aa_ [y] 0 = y := rfl
 unfold bx_.f bi_.f strings_Compare.f
 simp only [h1, h2, Option.bind_some, Go.ByteArray.toList_eq]
 rw [if_pos (by simp), if_pos (by simp)]
 obtain ⟨a1, a2⟩ := cmp_lt x.f0.data.toList y.f0.data.toList
 obtain ⟨b1, _⟩ := cmp_lt x.f1.data.toList y.f1.data.toList
 by_cases hz : Go.Lib.compareBytes x.f0.data.toList y.f0.data.toList = 0
 rotate_left
 ·refine ⟨Go.Lib.compareBytes x.f0.data.toList y.f0.data.toList, ?_, by rw [if_neg hz]⟩
  by_cases hl : Op.bytesLess x.f0.data.toList y.f0.data.toList = true
  rotate_left
  ·have : ¬ Go.Lib.compareBytes x.f0.data.toList y.f0.data.toList < 0 := fun e => hl (a1.1 e)
   rw [if_neg hl, if_neg (fun e => hz (a2.2 e))]
   simp [show Go.Lib.compareBytes x.f0.data.toList y.f0.data.toList ≥ 0 by omega]
  have := a1.2 hl
  rw [if_pos hl]
  simp [show ¬ Go.Lib.compareBytes x.f0.data.toList y.f0.data.toList ≥ 0 by omega]
 refine ⟨Go.Lib.compareBytes x.f1.data.toList y.f1.data.toList, ?_, by rw [if_pos hz]⟩
 have hn : ¬ Op.bytesLess x.f0.data.toList y.f0.data.toList = true := fun e => by have := a1.2 e; omega
 rw [if_neg hn, if_pos (a2.1 hz)]
 congr 1
 cases hb : Op.bytesLess x.f1.data.toList y.f1.data.toList with
 | true => have := b1.2 hb; simp [show ¬ Go.Lib.compareBytes x.f1.data.toList y.f1.data.toList ≥ 0 by omega]
 | false =>
  have : ¬ Go.Lib.compareBytes x.f1.data.toList y.f1.data.toList < 0 := fun e => by rw [b1.1 e] at hb; cases hb
  simp [show Go.Lib.compareBytes x.f1.data.toList y.f1.data.toList ≥ 0 by omega]
theorem validBS_ev (m : List S43) (hl : (m.length : Int) ≤ 1048576) (hw : ∀ y ∈ m, (y.f2.size : Int) ≤ 1048576) : ∃ b, ∀ k, 4000000 < k → aJ_.f k m = some b ∧ as_.f k m = some b := by
 have go : ∀ (d i : Nat), i + d = m.length → ∃ b, ∀ k, d + 2000001 < k → aJ_.l0 k m i = some b ∧ as_.l0 k m m (m.length : Int) i = some b := by
  intro d
  induction d with
  | zero =>
   intro i h1
   have g1 : ((i : Int) < (m.length : Int)) = False := eq_false (by omega)
   refine ⟨decide ((m.length : Int) ≤ 32), fun k hk => ?_⟩
   obtain ⟨k, rfl⟩ : ∃ m, k = m + 1 := ⟨k - 1, by omega⟩
   simp only [aJ_.l0, as_.l0, g1, if_false]
   exact ⟨trivial, trivial⟩
  | succ d ih =>
   intro i h1
   obtain ⟨b, hv⟩ := validB_ev m[i] (hw _ (List.getElem_mem _))
   have e1 : ∀ k, 2000000 < k → ay_.f k [m[i]] = some b := fun k h => (hv k h).1
   have e2 : ∀ k, 2000000 < k → aT_.f k m[i].f0 m[i].f1 m[i].f2 = some b := fun k h => (hv k h).2
   obtain ⟨c, hk0⟩ := ih (i + 1) (by omega)
   have g1 : ((i : Int) < (m.length : Int)) = True := eq_true (by omega)
   have g2 : (0 ≤ (i : Int)) = True := eq_true (by omega)
   have g3 := rd_B m i (by omega)
   have g4 : wrap64 ((i : Int) + 1) = ((i + 1 : Nat) : Int) := by rw [w64 (by omega) (by omega)]; omega
   have gf : (false = true) = False := by simp
   cases b with
   | false =>
    refine ⟨false, fun k hk => ?_⟩
    obtain ⟨k, rfl⟩ : ∃ m, k = m + 1 := ⟨k - 1, by omega⟩
    simp only [aJ_.l0, as_.l0, g1, g2, g3, if_true, e1 k (by omega), e2 k (by omega), Option.bind_some, gf, if_false]
    exact ⟨trivial, trivial⟩
   | true =>
    by_cases hi : i = 0
    rotate_left
    ·have g5 : ((i : Int) > 0) = True := eq_true (by omega)
     have g6 : wrap64 ((i : Int) - 1) = (i : Int) - 1 := w64 (by omega) (by omega)
     have g7 : (0 ≤ (i : Int) - 1) = True := eq_true (by omega)
     have g8 : ((i : Int) - 1 < (m.length : Int)) = True := eq_true (by omega)
     obtain ⟨t, t1, t2⟩ := before_ev (aa_ m ((i : Int) - 1)) m[i]
     by_cases ht : t ≥ 0
     rotate_left
     ·have ht1 : (t ≥ 0) = False := eq_false ht
      rw [show (!decide (t ≥ 0)) = true by simp; omega] at t1
      refine ⟨c, fun k hk => ?_⟩
      obtain ⟨k, rfl⟩ : ∃ m, k = m + 1 := ⟨k - 1, by omega⟩
      obtain ⟨f1, f2⟩ := hk0 k (by omega)
      simp only [aJ_.l0, as_.l0, g1, g2, g3, if_true, e1 k (by omega), e2 k (by omega), Option.bind_some, g5, g6, g7, g8, t1, t2, ht1, if_false, g4]
      exact ⟨f1, f2⟩
     have ht1 : (t ≥ 0) = True := eq_true ht
     rw [show (!decide (t ≥ 0)) = false by simp; omega] at t1
     refine ⟨false, fun k hk => ?_⟩
     obtain ⟨k, rfl⟩ : ∃ m, k = m + 1 := ⟨k - 1, by omega⟩
     simp only [aJ_.l0, as_.l0, g1, g2, g3, if_true, e1 k (by omega), e2 k (by omega), Option.bind_some, g5, g6, g7, g8, t1, t2, ht1, gf, if_false]
     exact ⟨trivial, trivial⟩
    have g5 : ((i : Int) > 0) = False := eq_false (by omega)
    refine ⟨c, fun k hk => ?_⟩
    obtain ⟨k, rfl⟩ : ∃ m, k = m + 1 := ⟨k - 1, by omega⟩
    obtain ⟨f1, f2⟩ := hk0 k (by omega)
    simp only [aJ_.l0, as_.l0, g1, g2, g3, if_true, e1 k (by omega), e2 k (by omega), Option.bind_some, g5, if_false, g4]
    exact ⟨f1, f2⟩
 obtain ⟨b, hk0⟩ := go m.length 0 (by omega)
 exact ⟨b, fun k hk => hk0 k (by omega)⟩
abbrev Blk := S43
def cB : List UInt8 × List UInt8 → List UInt8 × List UInt8 → Int := lx Go.Lib.compareBytes
theorem cB_ord : Ordr cB := lx_ord cb_ord
def ckB (x : Blk) : List UInt8 × List UInt8 := (x.f0.data.toList, x.f1.data.toList)
theorem cmp_ev (a0 a1 a2 b0 b1 b2 : ByteArray) : bi_.f a0 a1 a2 b0 b1 b2 = some (cB (a0.data.toList, a1.data.toList) (b0.data.toList, b1.data.toList)) := by
 unfold bi_.f strings_Compare.f cB lx
 simp only [Option.bind_some]
 split <;> rfl
theorem bfr_ev (x y : Blk) : bx_.f [x] [y] = some (decide (cB (ckB x) (ckB y) < 0)) := by
 obtain ⟨c, h1, h2⟩ := before_ev x y
 rw [cmp_ev] at h2
 have h3 : cB (ckB x) (ckB y) = c := Option.some.inj h2
 rw [h1, ← h3]
 congr 1
 by_cases h : cB (ckB x) (ckB y) < 0
 rotate_left
 ·simp [h]; omega
 simp [h]
theorem key_iff (x : Blk) (u v : ByteArray) : cB (ckB x) (u.data.toList, v.data.toList) = 0 ↔ x.f0.toList = u.toList ∧ x.f1.toList = v.toList := by
 rw [cB_ord.zero]
 simp only [ckB, Prod.mk.injEq, Go.ByteArray.toList_eq]
theorem bs_ev (l : List Blk) (hl : (l.length : Int) ≤ 1048576) (u v w : ByteArray) (hr : Rsg (fun x => cB (ckB x) (u.data.toList, v.data.toList)) l) :
  Ev (fun k => aB_.f k l u v w) (((plc (fun x => cB (ckB x) (u.data.toList, v.data.toList)) l : Nat) : Int), fnd (fun x => cB (ckB x) (u.data.toList, v.data.toList)) l) := by
 have hp0 := plc_le (fun x => cB (ckB x) (u.data.toList, v.data.toList)) l
 have go : ∀ (d i j : Nat), j = i + d → i ≤ plc (fun x => cB (ckB x) (u.data.toList, v.data.toList)) l → plc (fun x => cB (ckB x) (u.data.toList, v.data.toList)) l ≤ j → j ≤ l.length → Ev (fun k => aB_.l0 k l (l.length : Int) i j u v w) (((plc (fun x => cB (ckB x) (u.data.toList, v.data.toList)) l : Nat) : Int), fnd (fun x => cB (ckB x) (u.data.toList, v.data.toList)) l) := by
  intro d
  induction d using Nat.strongRecOn with
  | _ d ih =>
  intro i j h1 h2 h3 h4
  refine bb_ ?_
  simp only [aB_.l0]
  by_cases hd : d = 0
  rotate_left
  ·refine Ev_t (by omega) ?_
   rw [mid_ev i j (by omega)]
   obtain ⟨m, hm⟩ : ∃ m, m = (i + j) / 2 := ⟨_, rfl⟩
   rw [← hm]
   have hm1 : m < l.length := by omega
   refine Ev_t (by omega) (Ev_t (by omega) ?_)
   rw [cu_ l m hm1, cmp_ev]
   refine Ev_s ?_
   by_cases hc : cB (l[m].f0.data.toList, l[m].f1.data.toList) (u.data.toList, v.data.toList) < 0
   rotate_left
   ·refine Ev_f hc ?_
    refine ih (m - i) (by omega) i m (by omega) h2 ?_ (by omega)
    rcases Nat.lt_or_ge m (plc (fun x => cB (ckB x) (u.data.toList, v.data.toList)) l) with g | g
    ·exact absurd (plc_lt _ l m hm1 g) hc
    ·exact g
   refine Ev_t hc ?_
   rw [wr64s m (by omega)]
   refine ih (j - (m + 1)) (by omega) (m + 1) j (by omega) ?_ h3 h4
   rcases Nat.lt_or_ge m (plc (fun x => cB (ckB x) (u.data.toList, v.data.toList)) l) with g | g
   ·exact g
   ·rcases Nat.lt_or_eq_of_le g with g | g
    ·have hgt : 0 < cB (ckB l[m]) (u.data.toList, v.data.toList) := hr.gt m hm1 g
     have hc' : cB (ckB l[m]) (u.data.toList, v.data.toList) < 0 := hc
     omega
    ·have := plc_at (fun x => cB (ckB x) (u.data.toList, v.data.toList)) l (by omega)
     simp only [g] at this
     have hc' : cB (ckB l[m]) (u.data.toList, v.data.toList) < 0 := hc
     omega
  refine Ev_f (by omega) ?_
  have hp : plc (fun x => cB (ckB x) (u.data.toList, v.data.toList)) l = i := by omega
  by_cases hn : i < l.length
  rotate_left
  ·refine Ev_f (by omega) (Ev_n ?_)
   unfold fnd
   rw [dif_neg (by omega), hp]
  refine Ev_t (by omega) (Ev_t (by omega) (Ev_t (by omega) ?_))
  rw [cu_ l i hn, cmp_ev]
  refine Ev_s (Ev_n ?_)
  unfold fnd
  rw [dif_pos (by omega)]
  simp only [hp]
  rfl
 simp only [aB_.f]
 exact go l.length 0 l.length (by omega) (by omega) hp0 (Nat.le_refl _)
def putB (l : List Blk) (b : Blk) : List Blk :=
 if fnd (fun x => cB (ckB x) (ckB b)) l = true then l.take (plc (fun x => cB (ckB x) (ckB b)) l) ++ b :: l.drop (plc (fun x => cB (ckB x) (ckB b)) l + 1)
 else l.take (plc (fun x => cB (ckB x) (ckB b)) l) ++ b :: l.drop (plc (fun x => cB (ckB x) (ckB b)) l)
theorem put_ev (l : List Blk) (hl : (l.length : Int) ≤ 1048576) (b : Blk) (hr : Rsg (fun x => cB (ckB x) (ckB b)) l) : Ev (fun k => aA_.f k l b.f0 b.f1 b.f2) (putB l b) := by
 obtain ⟨c, hc⟩ : ∃ c, c = (fun x => cB (ckB x) (ckB b)) := ⟨_, rfl⟩
 unfold putB
 rw [← hc] at hr ⊢
 have key : ∀ x, c x = 0 ↔ x.f0.toList = b.f0.toList ∧ x.f1.toList = b.f1.toList := fun x => by rw [hc]; exact key_iff x b.f0 b.f1
 have hb : (⟨b.f0, b.f1, b.f2⟩ : Blk) = b := rfl
 have cEq : ∀ y, cB (ckB y) (ckB b) = c y := fun y => by rw [hc]
 have two : ∀ (d i : Nat) (out : List Blk), i + d = l.length → plc c l < i → out.length ≤ i + 1 → Ev (fun k => aA_.l0 k l out true i b.f0 b.f1 b.f2) (out ++ l.drop i) := by
  intro d
  induction d with
  | zero =>
   intro i out h1 h2 h3
   refine bb_ ?_
   simp only [aA_.l0]
   rw [List.drop_of_length_le (by omega), List.append_nil]
   exact Ev_f (by omega) (Ev_t (by trivial) (Ev_n rfl))
  | succ d ih =>
   intro i out h1 h2 h3
   refine bb_ ?_
   simp only [aA_.l0]
   refine Ev_t (by omega) (Ev_t (by trivial) (bb_ ?_))
   simp only [aA_.j1]
   refine Ev_f (by decide) (Ev_t (by omega) (Ev_t (by omega) ?_))
   rw [cu_ l i (by omega), wr64s i (by omega), List.drop_eq_getElem_cons (show i < l.length by omega)]
   have hn : c l[i] ≠ 0 := by have := hr.gt i (by omega) h2; omega
   have nxt := ih (i + 1) (out ++ [l[i]]) (by omega) (by omega) (by simp; omega)
   rw [List.append_assoc, List.singleton_append] at nxt
   by_cases e0 : l[i].f0.toList = b.f0.toList
   rotate_left
   ·exact Ev_f e0 (Ev_t (by omega) nxt)
   refine Ev_t e0 (Ev_f (fun e1 => hn ((key _).2 ⟨e0, e1⟩)) (Ev_t (by omega) nxt))
 have one : ∀ (d i : Nat), i + d = plc c l → Ev (fun k => aA_.l0 k l (l.take i) false i b.f0 b.f1 b.f2) (if fnd c l = true then l.take (plc c l) ++ b :: l.drop (plc c l + 1) else l.take (plc c l) ++ b :: l.drop (plc c l)) := by
  have hp0 := plc_le c l
  intro d
  induction d with
  | zero =>
   intro i h1
   have h1' : i = plc c l := by omega
   subst h1'
   refine bb_ ?_
   simp only [aA_.l0]
   have hlen : (l.take (plc c l)).length = plc c l := by simp; omega
   by_cases hn : plc c l < l.length
   rotate_left
   ·have hf : ¬ fnd c l = true := by unfold fnd; rw [dif_neg hn]; decide
    rw [if_neg hf, List.drop_of_length_le (by omega)]
    exact Ev_f (by omega) (Ev_f (by decide) (Ev_t (by omega) (Ev_n rfl)))
   refine Ev_t (by omega) (Ev_f (by decide) (Ev_t (by omega) ?_))
   rw [cu_ l _ hn, hb, bfr_ev]
   refine Ev_s (bb_ ?_)
   have h0 := plc_at c l hn
   rw [cEq]
   simp only [aA_.j1]
   refine Ev_t (by simpa using h0) (Ev_t (by omega) (Ev_s (Ev_t (by omega) (Ev_t (by omega) ?_))))
   rw [cu_ l _ hn, hb, wr64s _ (by omega)]
   have more : ∀ out : List Blk, out.length ≤ plc c l + 2 → Ev (fun k => aA_.l0 k l out true ((plc c l + 1 : Nat) : Int) b.f0 b.f1 b.f2) (out ++ l.drop (plc c l + 1)) := fun out ho =>
    two (l.length - (plc c l + 1)) (plc c l + 1) out (by omega) (by omega) ho
   by_cases hz : c l[plc c l] = 0
   rotate_left
   ·have hf : ¬ fnd c l = true := by unfold fnd; rw [dif_pos hn]; simpa using hz
    rw [if_neg hf]
    have last := more (l.take (plc c l) ++ [b] ++ [l[plc c l]]) (by simp; omega)
    have last' : Ev (fun k => aA_.l0 k l (l.take (plc c l) ++ [b] ++ [(⟨l[plc c l].f0, l[plc c l].f1, l[plc c l].f2⟩ : Blk)]) true ((plc c l + 1 : Nat) : Int) b.f0 b.f1 b.f2) (l.take (plc c l) ++ b :: l.drop (plc c l)) := by
     refine Ev_at last ?_
     rw [List.append_assoc, List.append_assoc, List.singleton_append, List.singleton_append, List.getElem_cons_drop]
    by_cases e0 : l[plc c l].f0.toList = b.f0.toList
    rotate_left
    ·exact Ev_f e0 (Ev_t (by simp; omega) last')
    exact Ev_t e0 (Ev_f (fun e1 => hz ((key _).2 ⟨e0, e1⟩)) (Ev_t (by simp; omega) last'))
   have hf : fnd c l = true := by unfold fnd; rw [dif_pos hn]; simpa using hz
   rw [if_pos hf]
   obtain ⟨e0, e1⟩ := (key _).1 hz
   refine Ev_t e0 (Ev_t e1 ?_)
   refine Ev_at (more _ (by simp; omega)) ?_
   rw [List.append_assoc, List.singleton_append]
  | succ d ih =>
   intro i h1
   have hi : i < l.length := by omega
   have hlen : (l.take i).length = i := by simp; omega
   refine bb_ ?_
   simp only [aA_.l0]
   refine Ev_t (by omega) (Ev_f (by decide) (Ev_t (by omega) ?_))
   rw [cu_ l i hi, hb, bfr_ev]
   refine Ev_s (bb_ ?_)
   have h0 := plc_lt c l i hi (by omega)
   rw [cEq]
   simp only [aA_.j1]
   refine Ev_f (by simpa using h0) (Ev_t (by omega) (Ev_t (by omega) ?_))
   rw [cu_ l i hi, wr64s i (by omega)]
   have nxt := ih (i + 1) (by omega)
   rw [List.take_succ_eq_append_getElem hi] at nxt
   by_cases e0 : l[i].f0.toList = b.f0.toList
   rotate_left
   ·exact Ev_f e0 (Ev_t (by omega) nxt)
   exact Ev_t e0 (Ev_f (fun e1 => by have := (key _).2 ⟨e0, e1⟩; omega) (Ev_t (by omega) nxt))
 simp only [aA_.f]
 exact one (plc c l) 0 (by omega)
theorem ok_loop (m : List Blk) (hl : (m.length : Int) ≤ 1048576) : ∀ (d i k : Nat), i + d = m.length → aJ_.l0 k m i = some true → m.length ≤ 32 ∧ ∀ (j : Nat), i ≤ j → 0 < j → ∀ (hj : j < m.length), cB (ckB (m[j - 1]'(by omega))) (ckB m[j]) < 0 := by
 intro d
 induction d with
 | zero =>
  intro i k h1 h
  cases k with
  | zero => simp [aJ_.l0] at h
  | succ k =>
   simp only [aJ_.l0] at h
   rw [if_neg (by omega)] at h
   have h := Option.some.inj h
   exact ⟨by have := of_decide_eq_true h; omega, fun j h2 _ hj => by omega⟩
 | succ d ih =>
  intro i k h1 h
  cases k with
  | zero => simp [aJ_.l0] at h
  | succ k =>
   simp only [aJ_.l0] at h
   rw [if_pos (by omega), if_pos (by omega)] at h
   obtain ⟨t, _, h⟩ := Option.bind_eq_some_iff.1 h
   cases t with
   | false => simp at h
   | true =>
    rw [if_pos rfl] at h
    by_cases hi : i = 0
    rotate_left
    ·have e : wrap64 ((i : Int) - 1) = ((i - 1 : Nat) : Int) := by rw [wr64 (by omega) (by omega)]; omega
     rw [if_pos (by omega), e, if_pos (by omega), if_pos (by omega), cu_ m (i - 1) (by omega), cu_ m i (by omega), bfr_ev] at h
     simp only [Option.bind_some] at h
     by_cases hc : cB (ckB (m[i - 1]'(by omega))) (ckB (m[i]'(by omega))) < 0
     rotate_left
     ·rw [if_neg (by simpa using hc)] at h
      simp at h
     rw [if_pos (by simpa using hc), wr64s i (by omega)] at h
     obtain ⟨a1, a2⟩ := ih (i + 1) k (by omega) h
     refine ⟨a1, fun j h2 h3 hj => ?_⟩
     rcases Nat.lt_or_eq_of_le h2 with g | g
     ·exact a2 j (by omega) h3 hj
     ·subst g; exact hc
    subst hi
    rw [if_neg (by omega), wr64s 0 (by omega)] at h
    obtain ⟨a1, a2⟩ := ih 1 k (by omega) h
    exact ⟨a1, fun j h2 h3 hj => a2 j (by omega) h3 hj⟩
theorem ok_ev (m : List Blk) (hl : (m.length : Int) ≤ 1048576) (hw : ∀ y ∈ m, (y.f2.size : Int) ≤ 1048576) : ∃ b, Ev (fun k => aJ_.f k m) b ∧ Ev (fun k => as_.f k m) b ∧ (b = true → m.length ≤ 32 ∧ ∀ t, Rsg (fun x => cB (ckB x) t) m) := by
 obtain ⟨b, hb⟩ := validBS_ev m hl hw
 refine ⟨b, ⟨4000001, fun k hk => (hb k (by omega)).1⟩, ⟨4000001, fun k hk => (hb k (by omega)).2⟩, fun h => ?_⟩
 subst h
 have h1 := (hb 4000001 (by omega)).1
 simp only [aJ_.f] at h1
 obtain ⟨a1, a2⟩ := ok_loop m hl m.length 0 4000001 (by omega) h1
 refine ⟨a1, fun t => rsg_of cB_ord ckB (fun i hi => ?_) t⟩
 exact a2 (i + 1) (by omega) (by omega) hi
def Vb (b : Blk) : Prop := (b.f2.size : Int) ≤ 1048576 ∧ ∀ k, 2000000 < k → aT_.f k b.f0 b.f1 b.f2 = some true ∧ ay_.f k [b] = some true
def VB (m : List Blk) : Prop := m.length ≤ 32 ∧ m.Pairwise (fun x y => cB (ckB x) (ckB y) < 0) ∧ ∀ y ∈ m, Vb y
theorem VB_ok (m : List Blk) (h : VB m) : Ev (fun k => aJ_.f k m) true ∧ Ev (fun k => as_.f k m) true ∧ ∀ t, Rsg (fun x => cB (ckB x) t) m := by
 obtain ⟨h1, h2, h3⟩ := h
 have go : ∀ (d i : Nat), i + d = m.length → Ev (fun k => aJ_.l0 k m i) true := by
  intro d
  induction d with
  | zero =>
   intro i hi
   refine bb_ ?_
   simp only [aJ_.l0]
   exact Ev_f (by omega) (Ev_n (decide_eq_true (by omega)))
  | succ d ih =>
   intro i hi
   have hv := h3 m[i] (List.getElem_mem _)
   have e1 : Ev (fun k => ay_.f k [m[i]]) true := ⟨2000001, fun k hk => (hv.2 k (by omega)).2⟩
   refine bb_ ?_
   simp only [aJ_.l0]
   refine Ev_t (by omega) (Ev_t (by omega) ?_)
   rw [cu_ m i (by omega), wr64s i (by omega)]
   refine Ev_b e1 (Ev_t rfl ?_)
   by_cases h0 : i = 0
   rotate_left
   ·have ew : wrap64 ((i : Int) - 1) = ((i - 1 : Nat) : Int) := by rw [wr64 (by omega) (by omega)]; omega
    rw [ew, cu_ m (i - 1) (by omega)]
    have hc := (List.pairwise_iff_getElem.1 h2) (i - 1) i (by omega) (by omega) (by omega)
    refine Ev_t (by omega) (Ev_t (by omega) (Ev_t (by omega) (Ev_b (a := true) (Ev_c ?_) (Ev_t rfl (ih (i + 1) (by omega))))))
    rw [bfr_ev]
    simp [hc]
   exact Ev_f (by omega) (ih (i + 1) (by omega))
 have s1 : Ev (fun k => aJ_.f k m) true := by simp only [aJ_.f]; exact go m.length 0 (by omega)
 obtain ⟨b, e1, e2, e3⟩ := ok_ev m (by omega) (fun y hy => (h3 y hy).1)
 have := Ev_one e1 s1
 subst this
 exact ⟨s1, e2, (e3 rfl).2⟩
theorem putV_ev (m : List Blk) (b : Blk) (h : VB m) (hb : Vb b) : Ev (fun k => aA_.f k m b.f0 b.f1 b.f2) (putB m b) ∧ ((putB m b).length ≤ 32 → Ev (fun k => bk_.f k m b.f0 b.f1 b.f2) (putB m b, 0)) ∧ (¬ (putB m b).length ≤ 32 → Ev (fun k => bk_.f k m b.f0 b.f1 b.f2) ([], 5)) := by
 obtain ⟨e1, e2, hr⟩ := VB_ok m h
 have hn := h.1
 have g2 : Ev (fun k => aT_.f k b.f0 b.f1 b.f2) true := ⟨2000001, fun k hk => (hb.2 k (by omega)).1⟩
 have f1 := put_ev m (by omega) b (hr _)
 have f2 : Ev (fun k => aB_.f k m b.f0 b.f1 b.f2) (((plc (fun x => cB (ckB x) (ckB b)) m : Nat) : Int), fnd (fun x => cB (ckB x) (ckB b)) m) := bs_ev m (by omega) b.f0 b.f1 b.f2 (hr _)
 have cl : cp_.f m = some m := by unfold cp_.f; rw [if_pos (by omega)]
 have hpl := plc_le (fun x => cB (ckB x) (ckB b)) m
 refine ⟨f1, ?_⟩
 cases hf : fnd (fun x => cB (ckB x) (ckB b)) m with
 | true =>
  obtain ⟨hp, _⟩ := fnd_t hf
  have ep : putB m b = m.take (plc (fun x => cB (ckB x) (ckB b)) m) ++ b :: m.drop (plc (fun x => cB (ckB x) (ckB b)) m + 1) := by unfold putB; rw [if_pos hf]
  have el : (putB m b).length = m.length := by rw [ep]; simp; omega
  rw [hf] at f2
  refine ⟨fun _ => ?_, fun q => by omega⟩
  simp only [bk_.f]
  refine Ev_b e2 (Ev_t rfl (Ev_b g2 (bb_ ?_)))
  simp only [bk_.j0]
  refine Ev_f (by decide) (Ev_b (Ev_c cl) (Ev_b f2 (Ev_t rfl (Ev_t (by show (0 : Int) ≤ _; omega) (Ev_t (by show _ < (m.length : Int); omega) (Ev_n ?_))))))
  rw [ep]
  simp only [Int.toNat_natCast, Prod.mk.injEq, and_true]
  rw [List.set_eq_take_append_cons_drop, if_pos hp]
 | false =>
  have ep : putB m b = m.take (plc (fun x => cB (ckB x) (ckB b)) m) ++ b :: m.drop (plc (fun x => cB (ckB x) (ckB b)) m) := by unfold putB; rw [if_neg (by rw [hf]; decide)]
  have el : (putB m b).length = m.length + 1 := by rw [ep]; simp; omega
  rw [hf] at f2
  refine ⟨fun q => ?_, fun q => ?_⟩
  ·simp only [bk_.f]
   refine Ev_b e2 (Ev_t rfl (Ev_b g2 (bb_ ?_)))
   simp only [bk_.j0]
   refine Ev_f (by decide) (Ev_b (Ev_c cl) (Ev_b f2 (Ev_f (by simp) (Ev_f (by omega) ?_))))
   refine Ev_b (a := putB m b) (Ev_c ?_) (Ev_n rfl)
   unfold cd_.f
   simp only
   rw [if_pos ⟨by omega, by omega, by omega⟩, Int.toNat_natCast, ep, List.append_assoc]
   rfl
  ·simp only [bk_.f]
   refine Ev_b e2 (Ev_t rfl (Ev_b g2 (bb_ ?_)))
   simp only [bk_.j0]
   exact Ev_f (by decide) (Ev_b (Ev_c cl) (Ev_b f2 (Ev_f (by simp) (Ev_t (by omega) (Ev_n rfl)))))
def bitN (c : Nat) : Nat := if c * 2 > 65535 then ((c * 2) &&& 65535) ^^^ 4129 else c * 2
def bitsN : Nat → Nat → Nat
 | 0, c => c
 | n + 1, c => bitsN n (bitN c)
def byteN (c b : Nat) : Nat := bitsN 8 (c ^^^ (b * 256))
def crcN (c : Nat) (l : List UInt8) : Nat := l.foldl (fun c b => byteN c b.toNat) c
theorem and_ffff (c : Nat) : c &&& 65535 = c % 65536 := Nat.and_two_pow_sub_one_eq_mod c 16
theorem xor_inj (a b m : Nat) (h : a ^^^ m = b ^^^ m) : a = b := by
 have := congrArg (· ^^^ m) h
 simpa [Nat.xor_assoc, Nat.xor_self] using this
theorem bitN_lt {c : Nat} (h : c < 65536) : bitN c < 65536 := by
 unfold bitN
 split
 ·rw [and_ffff]
  exact Nat.xor_lt_two_pow (n := 16) (Nat.mod_lt _ (by decide)) (by decide)
 ·omega
theorem xor_odd (a : Nat) (h : a % 2 = 0) : (a ^^^ 4129) % 2 = 1 := by
 have h1 := Nat.testBit_xor (x := a) (y := 4129) (i := 0)
 rw [Nat.testBit_zero, Nat.testBit_zero, Nat.testBit_zero, h] at h1
 simpa using h1
theorem bitN_inj {c d : Nat} (hc : c < 65536) (hd : d < 65536) (h : bitN c = bitN d) : c = d := by
 unfold bitN at h
 rw [and_ffff, and_ffff] at h
 by_cases h1 : c * 2 > 65535
 rotate_left
 ·by_cases h2 : d * 2 > 65535
  rotate_left
  ·rw [if_neg h1, if_neg h2] at h
   omega
  rw [if_neg h1, if_pos h2] at h
  have := xor_odd (d * 2 % 65536) (by omega)
  omega
 by_cases h2 : d * 2 > 65535
 rotate_left
 ·rw [if_pos h1, if_neg h2] at h
  have := xor_odd (c * 2 % 65536) (by omega)
  omega
 rw [if_pos h1, if_pos h2] at h
 have := xor_inj _ _ _ h
 omega
theorem bitsN_lt : ∀ (n : Nat) {c : Nat}, c < 65536 → bitsN n c < 65536
 | 0, _, h => h
 | n + 1, _, h => bitsN_lt n (bitN_lt h)
theorem bitsN_inj : ∀ (n : Nat) {c d : Nat}, c < 65536 → d < 65536 → bitsN n c = bitsN n d → c = d
 | 0, _, _, _, _, h => h
 | n + 1, _, _, hc, hd, h => bitN_inj hc hd (bitsN_inj n (bitN_lt hc) (bitN_lt hd) h)
theorem in_lt {c b : Nat} (hc : c < 65536) (hb : b < 256) : c ^^^ (b * 256) < 65536 := Nat.xor_lt_two_pow (n := 16) hc (by omega)
theorem byteN_lt {c b : Nat} (hc : c < 65536) (hb : b < 256) : byteN c b < 65536 := bitsN_lt 8 (in_lt hc hb)
theorem byteN_inj {c d b : Nat} (hc : c < 65536) (hd : d < 65536) (hb : b < 256) (h : byteN c b = byteN d b) : c = d :=
 xor_inj _ _ _ (bitsN_inj 8 (in_lt hc hb) (in_lt hd hb) h)
theorem byteN_ne {c b b2 : Nat} (hc : c < 65536) (hb : b < 256) (hb2 : b2 < 256) (h : byteN c b = byteN c b2) : b = b2 := by
 have h1 := bitsN_inj 8 (in_lt hc hb) (in_lt hc hb2) h
 rw [Nat.xor_comm c, Nat.xor_comm c] at h1
 have := xor_inj _ _ _ h1
 omega
theorem crcN_nil (c : Nat) : crcN c [] = c := by unfold crcN; rw [List.foldl_nil]
theorem cZ_ (c : Nat) (b : UInt8) (l : List UInt8) : crcN c (b :: l) = crcN (byteN c b.toNat) l := by unfold crcN; rw [List.foldl_cons]
theorem byteN_eq (c b : Nat) : byteN c b = bitsN 8 (c ^^^ (b * 256)) := by unfold byteN; rfl
attribute [irreducible] byteN
theorem crcN_lt : ∀ (l : List UInt8) {c : Nat}, c < 65536 → crcN c l < 65536 := by
 intro l
 induction l with
 | nil => intro c h; rw [crcN_nil]; exact h
 | cons b l ih => intro c h; rw [cZ_]; exact ih (byteN_lt h b.toNat_lt)
theorem crcN_inj : ∀ (l : List UInt8) {c d : Nat}, c < 65536 → d < 65536 → crcN c l = crcN d l → c = d := by
 intro l
 induction l with
 | nil => intro c d _ _ h; rw [crcN_nil, crcN_nil] at h; exact h
 | cons b l ih => intro c d hc hd h; rw [cZ_, cZ_] at h; exact byteN_inj hc hd b.toNat_lt (ih (byteN_lt hc b.toNat_lt) (byteN_lt hd b.toNat_lt) h)
theorem crcN_app : ∀ (l m : List UInt8) (c : Nat), crcN c (l ++ m) = crcN (crcN c l) m := by
 intro l
 induction l with
 | nil => intro m c; rw [crcN_nil, List.nil_append]
 | cons b l ih => intro m c; rw [List.cons_append, cZ_, cZ_, ih]
attribute [irreducible] crcN
theorem crc_change (A C : List UInt8) (b b2 : UInt8) (h : b ≠ b2) : crcN 65535 (A ++ b :: C) ≠ crcN 65535 (A ++ b2 :: C) := by
 intro e
 rw [crcN_app, crcN_app, cZ_, cZ_] at e
 have h0 := crcN_lt A (show 65535 < 65536 by decide)
 have := byteN_ne h0 b.toNat_lt b2.toNat_lt (crcN_inj C (byteN_lt h0 b.toNat_lt) (byteN_lt h0 b2.toNat_lt) e)
 exact h (UInt8.toNat_inj.1 this)
theorem bits_nat (op : BinOp) (hop : op = .xor ∨ op = .and) (x y : Nat) (hx : x < 131072) (hy : y < 65536) : Go.bits op .i64 (x : Int) (y : Int) = ((if op = .xor then x ^^^ y else x &&& y : Nat) : Int) := by
 have hx1 : x % 2 ^ IntKind.i64.bits = x := Nat.mod_eq_of_lt (by show x < 2 ^ 64; omega)
 have hy1 : y % 2 ^ IntKind.i64.bits = y := Nat.mod_eq_of_lt (by show y < 2 ^ 64; omega)
 have key : ∀ n : Nat, n < 131072 → IntKind.i64.wrap (n : Int) = (n : Int) := fun n hn => by
  rw [IntKind.wrap_i64]
  omega
 rcases hop with rfl | rfl
 ·have := key _ (Nat.xor_lt_two_pow (n := 17) hx (show y < 2 ^ 17 by omega))
  rw [if_pos rfl]
  simpa only [bits, BitVec.ofInt_natCast, BitVec.toNat_xor, BitVec.toNat_ofNat, hx1, hy1] using this
 ·have h2 := Nat.and_lt_two_pow x (show y < 2 ^ 16 by omega)
  have := key (x &&& y) (by omega)
  rw [if_neg (by decide)]
  simpa only [bits, BitVec.ofInt_natCast, BitVec.toNat_and, BitVec.toNat_ofNat, hx1, hy1] using this
theorem crc_val (L : List UInt8) (hL : L.length ≤ 1048576) : Ev (fun k => aF_.f k (Bs L) 65535) ((crcN 65535 L : Nat) : Int) := by
 have outer : ∀ (R P : List UInt8) (c : Nat), P ++ R = L → c < 65536 → Ev (fun k => aF_.l0 k (Bs L) (c : Int) (P.length : Int)) ((crcN c R : Nat) : Int) := by
  intro R
  induction R with
  | nil =>
   intro P c hP hc
   rw [crcN_nil]
   refine bb_ ?_
   simp only [aF_.l0]
   have : P.length = L.length := by rw [← hP]; simp
   exact Ev_f (by rw [bp_]; omega) (Ev_n rfl)
  | cons b R ih =>
   intro P c hP hc
   rw [cZ_]
   have hl : L.length = P.length + 1 + R.length := by rw [← hP]; simp; omega
   have hb : bt (Bs L) (P.length : Int) = (b.toNat : Int) := by
    rw [bt_in L P.length (by omega)]
    have : L[P.length]'(by omega) = b := by subst hP; simp
    rw [this]
   have hbl := b.toNat_lt
   have nx := ih (P ++ [b]) (byteN c b.toNat) (by simpa using hP) (byteN_lt hc hbl)
   rw [show (P ++ [b]).length = P.length + 1 by simp] at nx
   have inner : ∀ (d j c1 : Nat), j + d = 8 → c1 < 65536 → bitsN d c1 = byteN c b.toNat → Ev (fun k => aF_.l1 k (Bs L) (c1 : Int) (P.length : Int) (j : Int)) ((crcN (byteN c b.toNat) R : Nat) : Int) := by
    intro d
    induction d with
    | zero =>
     intro j c1 hj h1 h2
     refine bb_ ?_
     simp only [aF_.l1]
     rw [wr64s P.length (by omega)]
     obtain rfl : c1 = byteN c b.toNat := h2
     exact Ev_f (by omega) nx
    | succ d ih2 =>
     intro j c1 hj h1 h2
     have e2 : wrap64 ((c1 : Int) * 2) = ((c1 * 2 : Nat) : Int) := by rw [wr64 (by omega) (by omega)]; omega
     have r := ih2 (j + 1) (bitN c1) (by omega) (bitN_lt h1) h2
     refine bb_ ?_
     simp only [aF_.l1]
     rw [e2, wr64s j (by omega)]
     by_cases h : c1 * 2 > 65535
     rotate_left
     ·have e : bitN c1 = c1 * 2 := if_neg h
      rw [e] at r
      exact Ev_t (by omega) (Ev_f (by omega) r)
     have b1 : Go.bits .and .i64 ((c1 * 2 : Nat) : Int) 65535 = (((c1 * 2) &&& 65535 : Nat) : Int) := bits_nat .and (.inr rfl) (c1 * 2) 65535 (by omega) (by omega)
     have lt : (c1 * 2) &&& 65535 < 65536 := by rw [and_ffff]; exact Nat.mod_lt _ (by decide)
     have b2 : Go.bits .xor .i64 (((c1 * 2) &&& 65535 : Nat) : Int) 4129 = ((((c1 * 2) &&& 65535) ^^^ 4129 : Nat) : Int) := bits_nat .xor (.inl rfl) _ 4129 (by omega) (by omega)
     have e : bitN c1 = ((c1 * 2) &&& 65535) ^^^ 4129 := if_pos h
     rw [b1, b2, ← e]
     exact Ev_t (by omega) (Ev_t (by omega) r)
   refine bb_ ?_
   simp only [aF_.l0]
   have b0 : Go.bits .xor .i64 (c : Int) ((b.toNat * 256 : Nat) : Int) = ((c ^^^ (b.toNat * 256) : Nat) : Int) := bits_nat .xor (.inl rfl) c (b.toNat * 256) (by omega) (by omega)
   rw [hb, wr64 (x := (b.toNat : Int)) (by omega) (by omega), show ((b.toNat : Int) * 256) = ((b.toNat * 256 : Nat) : Int) by omega, wr64 (by omega) (by omega), b0]
   exact Ev_t (by rw [bp_]; omega) (Ev_t (by omega) (inner 8 0 _ (by omega) (in_lt hc hbl) (byteN_eq c b.toNat).symm))
 simp only [aF_.f]
 exact outer L [] 65535 rfl (by decide)
def valD : Nat → List UInt8 → Nat
 | a, [] => a
 | a, b :: l => valD (a * 10 + (b.toNat - 48)) l
theorem valD_app : ∀ (l m : List UInt8) (a : Nat), valD a (l ++ m) = valD (valD a l) m
 | [], _, _ => rfl
 | b :: l, m, a => valD_app l m _
theorem dg_val (d : Nat) (h : d < 10) : (UInt8.ofNat (48 + d)).toNat - 48 = d := by
 rw [UInt8.toNat_ofNat_of_lt' (show 48 + d < 256 by omega)]
 omega
theorem valD_dec (u : Nat) : valD 0 (Go.Lib.decDigits u) = u := by
 induction u using Nat.strongRecOn with
 | _ u ih =>
  rw [Go.Lib.decDigits]
  split
  ·rename_i h
   show 0 * 10 + ((UInt8.ofNat (48 + u)).toNat - 48) = u
   rw [dg_val u h]; omega
  ·rename_i h
   rw [valD_app, ih (u / 10) (by omega)]
   show u / 10 * 10 + ((UInt8.ofNat (48 + u % 10)).toNat - 48) = u
   rw [dg_val _ (Nat.mod_lt _ (by decide))]; omega
theorem valD_zeros : ∀ n : Nat, valD 0 (List.replicate n 48) = 0
 | 0 => rfl
 | n + 1 => valD_zeros n
theorem five_val (n : Nat) : valD 0 (five (n : Int)).data.toList = n := by
 unfold five
 rw [Bs_list, valD_app, valD_zeros, Go.Lib.itoa_nonneg, valD_dec]
theorem five_inj {m n : Nat} (h : five (m : Int) = five (n : Int)) : m = n := by rw [← five_val m, ← five_val n, h]
end Go.Proofs.YtjebkmfljcanlaaDoor.Q
namespace Go.Proofs.YtjebkmfljcanlaaDoor.Q
open Go.RowKit Go.Proofs.YtjebkmfljcanlaaDoorW.PrintWords Go.Proofs.YtjebkmfljcanlaaDoorW.PrintLast Go.Proofs.YtjebkmfljcanlaaDoorW.PrintMore
def joinL : List (List UInt8) → List UInt8
 | [] => []
 | l :: ls => l ++ 10 :: joinL ls
theorem spl_head : ∀ (l r : List UInt8), (10 : UInt8) ∉ l → spl 10 (l ++ 10 :: r) = l :: spl 10 r
 | [], r, _ => by
  show (if (10 : UInt8) = 10 then [] :: spl 10 r else _) = _
  rw [if_pos rfl]
 | b :: l, r, h => by
  have hb : b ≠ 10 := fun e => h (by rw [e]; exact List.mem_cons_self ..)
  have ih := spl_head l r (fun e => h (List.mem_cons_of_mem _ e))
  rw [List.cons_append, spl, if_neg hb, ih]
theorem spl_join : ∀ (ls : List (List UInt8)), (∀ l ∈ ls, (10 : UInt8) ∉ l) → spl 10 (joinL ls) = ls ++ [[]]
 | [], _ => rfl
 | l :: ls, h => by
  rw [joinL, spl_head l _ (h l (List.mem_cons_self ..)), spl_join ls (fun x hx => h x (List.mem_cons_of_mem _ hx))]
  rfl
def cnt10 (l : List UInt8) : Nat := (l.filter (fun b => b == 10)).length
theorem cnt10_app (a b : List UInt8) : cnt10 (a ++ b) = cnt10 a + cnt10 b := by unfold cnt10; rw [List.filter_append, List.length_append]
theorem cnt10_no {l : List UInt8} (h : (10 : UInt8) ∉ l) : cnt10 l = 0 := by
 unfold cnt10
 rw [List.length_eq_zero_iff, List.filter_eq_nil_iff]
 intro x hx e
 have : x = 10 := by simpa using e
 exact h (this ▸ hx)
theorem at_line : ∀ (ls : List (List UInt8)) (p : Nat) (hp : p < (joinL ls).length), (∀ l ∈ ls, (10 : UInt8) ∉ l) → (joinL ls)[p] ≠ 10 →
  ∃ (j q : Nat) (hj : j < ls.length) (hq : q < ls[j].length), ls[j][q] = (joinL ls)[p] ∧ cnt10 ((joinL ls).take p) = j ∧ ∀ c, (joinL ls).set p c = joinL (ls.set j (ls[j].set q c))
 | [], p, hp, _, _ => by simp [joinL] at hp
 | l :: ls, p, hp, h, hne => by
  have hl := h l (List.mem_cons_self ..)
  by_cases c1 : p < l.length
  rotate_left
  ·by_cases c2 : p = l.length
   rotate_left
   ·obtain ⟨p', rfl⟩ : ∃ p', p = l.length + 1 + p' := ⟨p - l.length - 1, by omega⟩
    have e0 : joinL (l :: ls) = (l ++ [10]) ++ joinL ls := by simp [joinL]
    have hp' : p' < (joinL ls).length := by rw [e0] at hp; simp at hp; omega
    have eg : (joinL (l :: ls))[l.length + 1 + p'] = (joinL ls)[p'] := by
     simp only [e0]
     rw [List.getElem_append_right (by rw [List.length_append, List.length_singleton]; omega)]
     congr 1
     simp
    obtain ⟨j, q, hj, hq, g1, g2, g3⟩ := at_line ls p' hp' (fun x hx => h x (List.mem_cons_of_mem _ hx)) (by rw [← eg]; exact hne)
    refine ⟨j + 1, q, by simp; omega, by simpa using hq, ?_, ?_, fun c => ?_⟩
    ·rw [eg, ← g1]; simp
    ·rw [e0, List.take_append, cnt10_app, List.take_of_length_le (by rw [List.length_append, List.length_singleton]; omega), cnt10_app, cnt10_no hl]
     have : l.length + 1 + p' - (l ++ [10]).length = p' := by simp
     rw [this, g2]
     show 0 + 1 + j = j + 1
     omega
    ·rw [e0, List.set_append, if_neg (by rw [List.length_append, List.length_singleton]; omega)]
     have : l.length + 1 + p' - (l ++ [10]).length = p' := by simp
     rw [this, g3 c]
     simp [joinL]
   exfalso
   apply hne
   subst c2
   simp [joinL]
  refine ⟨0, p, by simp, c1, ?_, ?_, fun c => ?_⟩
  ·simp only [joinL, List.getElem_cons_zero]
   rw [List.getElem_append_left c1]
  ·simp only [joinL]
   rw [List.take_append_of_le_length (by omega)]
   exact cnt10_no (fun e => hl (List.mem_of_mem_take e))
  ·simp only [joinL, List.set_cons_zero, List.getElem_cons_zero]
   rw [List.set_append, if_pos c1]
theorem name_l0 (x : ByteArray) (hs : x.size ≤ 10) : ∀ (d k i : Nat), i + d = x.size → aq_.l0 k x i = some true → ∀ j : Nat, i ≤ j → j < x.size → (48 ≤ bt x j ∧ bt x j ≤ 122) := by
 intro d
 induction d with
 | zero => intro k i hi _ j h1 h2; omega
 | succ d ih =>
  intro k i hi h j h1 h2
  cases k with
  | zero => simp [aq_.l0] at h
  | succ k =>
   simp only [aq_.l0] at h
   rw [if_pos (by omega), if_pos (by omega), wr64s i (by omega)] at h
   have fin : aq_.l0 k x ((i + 1 : Nat) : Int) = some true → (48 ≤ bt x i ∧ bt x i ≤ 122) → (48 ≤ bt x j ∧ bt x j ≤ 122) := by
    intro g1 g2
    rcases Nat.eq_or_lt_of_le h1 with e | e
    ·subst e; exact g2
    ·exact ih k (i + 1) (by omega) g1 j (by omega) h2
   by_cases c1 : bt x i < 97
   rotate_left
   ·rw [if_neg c1] at h
    by_cases c2 : bt x i > 122
    rotate_left
    ·rw [if_neg c2] at h; exact fin h ⟨by omega, by omega⟩
    rw [if_pos c2] at h
    by_cases c3 : bt x i < 48
    rotate_left
    ·rw [if_neg c3] at h
     by_cases c4 : bt x i > 57
     rotate_left
     ·omega
     rw [if_pos c4] at h; simp at h
    omega
   rw [if_pos c1] at h
   by_cases c2 : bt x i < 48
   rotate_left
   ·rw [if_neg c2] at h
    by_cases c3 : bt x i > 57
    rotate_left
    ·rw [if_neg c3] at h; exact fin h ⟨by omega, by omega⟩
    rw [if_pos c3] at h; simp at h
   rw [if_pos c2] at h; simp at h
theorem name_ch (x : ByteArray) (k : Nat) (h : aq_.f k x = some true) : 1 ≤ x.size ∧ x.size ≤ 10 ∧ ∀ b ∈ x.data.toList, 48 ≤ b.toNat ∧ b.toNat ≤ 122 := by
 have j0t : ∀ k, aq_.j0 k x true ≠ some true := by
  intro k
  cases k with
  | zero => simp [aq_.j0]
  | succ k => simp [aq_.j0]
 simp only [aq_.f] at h
 by_cases c1 : (x.size : Int) < 1
 ·rw [if_pos c1] at h; exact absurd h (j0t k)
 rw [if_neg c1] at h
 by_cases c2 : (x.size : Int) > 10
 ·rw [if_pos c2] at h; exact absurd h (j0t k)
 rw [if_neg c2, if_pos (by omega)] at h
 have hl0 : ∃ k', aq_.l0 k' x 0 = some true := by
  by_cases c3 : bt x 0 < 97
  ·rw [if_pos c3] at h; exact absurd h (j0t k)
  rw [if_neg c3] at h
  cases k with
  | zero => simp [aq_.j0] at h
  | succ k =>
   simp only [aq_.j0] at h
   split at h
   ·simp at h
   ·exact ⟨k, h⟩
 obtain ⟨k', hk'⟩ := hl0
 refine ⟨by omega, by omega, fun b hb => ?_⟩
 obtain ⟨i, hi, rfl⟩ := List.mem_iff_getElem.1 hb
 have hsz : x.data.toList.length = x.size := by rw [Array.length_toList]; rfl
 have g := name_l0 x (by omega) x.size k' 0 (by omega) hk' i (by omega) (by omega)
 have e := bt_in x.data.toList i hi
 rw [cU_] at e
 rw [e] at g
 omega
theorem one_parts {x : Blk} (h : Ev (fun k => ay_.f k [x]) true) (hx : (x.f2.size : Int) ≤ 1048576) : (∀ b ∈ x.f0.data.toList, 48 ≤ b.toNat ∧ b.toNat ≤ 122) ∧ (∀ b ∈ x.f1.data.toList, 48 ≤ b.toNat ∧ b.toNat ≤ 122) ∧ x.f0.size ≤ 10 ∧ x.f1.size ≤ 10 ∧ x.f2.size ≤ 400 ∧ (10 : UInt8) ∉ x.f2.data.toList := by
 have r0 : aa_ [x] 0 = x := rfl
 have hsz : x.f2.data.toList.length = x.f2.size := by rw [Array.length_toList]; rfl
 have go : ∀ (d i k : Nat), i + d = x.f2.size → ay_.l0 k [x] i = some true → (∃ k', aq_.f k' x.f0 = some true) ∧ (∃ k', aq_.f k' x.f1 = some true) ∧ x.f2.size ≤ 400 ∧ (10 : UInt8) ∉ x.f2.data.toList.drop i := by
  intro d
  induction d with
  | zero =>
   intro i k hi g
   cases k with
   | zero => simp [ay_.l0] at g
   | succ k =>
    simp only [ay_.l0, r0] at g
    rw [if_pos (by simp), if_neg (by omega)] at g
    obtain ⟨n0, hn0, g⟩ := Option.bind_eq_some_iff.1 g
    rw [name_same] at hn0
    by_cases c0 : n0 = true
    rotate_left
    ·rw [if_neg c0] at g; simp at g
    rw [if_pos c0] at g
    obtain ⟨n1, hn1, g⟩ := Option.bind_eq_some_iff.1 g
    rw [name_same] at hn1
    by_cases c1 : n1 = true
    rotate_left
    ·rw [if_neg c1] at g; simp at g
    rw [if_pos c1] at g
    have g2 := of_decide_eq_true (Option.some.inj g)
    refine ⟨⟨k, by rw [hn0, c0]⟩, ⟨k, by rw [hn1, c1]⟩, by omega, ?_⟩
    rw [List.drop_of_length_le (by omega)]
    exact List.not_mem_nil
  | succ d ih =>
   intro i k hi g
   cases k with
   | zero => simp [ay_.l0] at g
   | succ k =>
    simp only [ay_.l0, r0] at g
    rw [if_pos (by simp), if_pos (by omega), if_pos (by omega), wr64s i (by omega)] at g
    by_cases c : bt x.f2 i = 10
    rotate_left
    ·rw [if_neg c] at g
     obtain ⟨g1, g2, g3, g4⟩ := ih (i + 1) k (by omega) g
     refine ⟨g1, g2, g3, ?_⟩
     rw [List.drop_eq_getElem_cons (by omega)]
     intro hm
     rcases List.mem_cons.1 hm with e | e
     ·apply c
      have e2 := bt_in x.f2.data.toList i (by omega)
      rw [cU_] at e2
      rw [e2, ← e]
      rfl
     ·exact g4 e
    rw [if_pos c] at g; simp at g
 obtain ⟨K, hK⟩ := h
 have hk := hK K (Nat.le_refl _)
 simp only [ay_.f] at hk
 obtain ⟨⟨k1, g1⟩, ⟨k2, g2⟩, g3, g4⟩ := go x.f2.size 0 K (by omega) hk
 obtain ⟨_, a1, a2⟩ := name_ch x.f0 k1 g1
 obtain ⟨_, b1, b2⟩ := name_ch x.f1 k2 g2
 exact ⟨a2, b2, a1, b1, g3, by simpa using g4⟩
def restL (x : Blk) : List UInt8 := x.f0.data.toList ++ 32 :: (x.f1.data.toList ++ 32 :: x.f2.data.toList)
def fiveL (Y : List UInt8) : List UInt8 := (five ((crcN 65535 Y : Nat) : Int)).data.toList
def lineL (x : Blk) : List UInt8 := fiveL (restL x) ++ 32 :: restL x
theorem fiveL_len (Y : List UInt8) : (fiveL Y).length = 5 := by
 have h := crcN_lt Y (show 65535 < 65536 by decide)
 have := five_len ((crcN 65535 Y : Nat) : Int) (by omega) (by omega)
 unfold fiveL
 rw [Array.length_toList]
 exact this
theorem dec_ch (u : Nat) : ∀ b ∈ Go.Lib.decDigits u, 48 ≤ b.toNat ∧ b.toNat ≤ 57 := by
 induction u using Nat.strongRecOn with
 | _ u ih =>
  intro b hb
  rw [Go.Lib.decDigits] at hb
  split at hb
  ·rename_i h
   have e := List.mem_singleton.1 hb
   rw [e, UInt8.toNat_ofNat_of_lt' (show 48 + u < 256 by omega)]
   omega
  ·rename_i h
   rcases List.mem_append.1 hb with g | g
   ·exact ih (u / 10) (by omega) b g
   ·have e := List.mem_singleton.1 g
    rw [e, UInt8.toNat_ofNat_of_lt' (show 48 + u % 10 < 256 by omega)]
    omega
theorem fiveL_ch (Y : List UInt8) : ∀ b ∈ fiveL Y, 48 ≤ b.toNat ∧ b.toNat ≤ 57 := by
 intro b hb
 unfold fiveL five at hb
 rw [Bs_list, Go.Lib.itoa_nonneg] at hb
 rcases List.mem_append.1 hb with g | g
 ·rw [List.eq_of_mem_replicate g]; decide
 ·exact dec_ch _ b g
theorem no_of {l : List UInt8} {c : UInt8} (hc : c.toNat < 48) (h : ∀ b ∈ l, 48 ≤ b.toNat) : c ∉ l := fun hm => by have := h c hm; omega
theorem rest_no10 {x : Blk} (h : Ev (fun k => ay_.f k [x]) true) (hx : (x.f2.size : Int) ≤ 1048576) : (10 : UInt8) ∉ restL x := by
 obtain ⟨a, b, _, _, _, d⟩ := one_parts h hx
 have a1 : (10 : UInt8) ∉ x.f0.data.toList := no_of (by decide) (fun y hy => (a y hy).1)
 have b1 : (10 : UInt8) ∉ x.f1.data.toList := no_of (by decide) (fun y hy => (b y hy).1)
 unfold restL
 simp only [List.mem_append, List.mem_cons, not_or]
 exact ⟨a1, by decide, b1, by decide, d⟩
theorem line_no10 {x : Blk} (h : Ev (fun k => ay_.f k [x]) true) (hx : (x.f2.size : Int) ≤ 1048576) : (10 : UInt8) ∉ lineL x := by
 have r := rest_no10 h hx
 have f : (10 : UInt8) ∉ fiveL (restL x) := no_of (by decide) (fun y hy => (fiveL_ch _ y hy).1)
 unfold lineL
 simp only [List.mem_append, List.mem_cons, not_or]
 exact ⟨f, by decide, r⟩
theorem restL_len {x : Blk} (h : Ev (fun k => ay_.f k [x]) true) (hx : (x.f2.size : Int) ≤ 1048576) : (restL x).length ≤ 422 := by
 obtain ⟨_, _, h0, h1, h2, _⟩ := one_parts h hx
 have e0 : x.f0.data.toList.length = x.f0.size := by rw [Array.length_toList]; rfl
 have e1 : x.f1.data.toList.length = x.f1.size := by rw [Array.length_toList]; rfl
 have e2 : x.f2.data.toList.length = x.f2.size := by rw [Array.length_toList]; rfl
 unfold restL
 simp only [List.length_append, List.length_cons]
 omega
theorem parse_pre (P : List UInt8) (s : UInt8) (Y : List UInt8) (hP : P.length = 5) (hY : Y.length ≤ 1000000) :
  (s ≠ 32 → Ev (fun k => ai_.f k (Bs (P ++ s :: Y))) (no4 9)) ∧
  (s = 32 → P ≠ fiveL Y → Ev (fun k => ai_.f k (Bs (P ++ s :: Y))) (no4 10)) ∧
  (s = 32 → P = fiveL Y → ∀ r, Ev (fun k => ai_.l0 k (Bs Y) 0) r → Ev (fun k => ai_.f k (Bs (P ++ s :: Y))) r) := by
 have hl : (P ++ s :: Y).length = 6 + Y.length := by simp; omega
 have hb : bt (Bs (P ++ s :: Y)) 5 = (s.toNat : Int) := by
  have := bt_in (P ++ s :: Y) 5 (by omega)
  rw [show ((5 : Nat) : Int) = 5 by rfl] at this
  rw [this]
  congr 2
  rw [List.getElem_append_right (by omega)]
  simp [hP]
 have e6 : (Bs (P ++ s :: Y)).extract 6 (Bs (P ++ s :: Y)).size = Bs Y := ext3 (P ++ s :: Y) 6 _ (P ++ [s]) Y [] (by simp) (by simp [hP]) (by rw [bp_]; omega)
 have e5 : (Bs (P ++ s :: Y)).extract 0 5 = Bs P := ext3 (P ++ s :: Y) 0 5 [] P (s :: Y) (by simp) rfl (by omega)
 have c1 := crc_val Y (by omega)
 have hlt := crcN_lt Y (show 65535 < 65536 by decide)
 have f1 := five_spec ((crcN 65535 Y : Nat) : Int) (by omega) (by omega)
 simp only [ai_.f]
 rw [hb]
 refine ⟨fun hs => ?_, fun hs hne => ?_, fun hs he r hr => ?_⟩
 ·have : ((s.toNat : Int) != 32) = true := by
   rw [bne_iff_ne]
   intro e
   exact hs ((u8_eq s 32 (by decide)).1 e)
  rw [this]
  refine Ev_f (by rw [bp_]; omega) (Ev_t (by rw [bp_]; omega) (bb_ ?_))
  simp only [ai_.j0]
  exact Ev_t (by first | exact True.intro | rfl) (Ev_n rfl)
 ·subst hs
  have : (((32 : UInt8).toNat : Int) != 32) = false := by decide
  rw [this]
  refine Ev_f (by rw [bp_]; omega) (Ev_t (by rw [bp_]; omega) (bb_ ?_))
  simp only [ai_.j0]
  rw [e6, e5]
  refine Ev_f (by decide) (Ev_t (by rw [bp_]; omega) (Ev_s (Ev_t (by rw [bp_]; omega) (Ev_b c1 (Ev_b f1 (Ev_f (fun h => ?_) (Ev_n rfl)))))))
  rw [Go.ByteArray.toList_eq, Go.ByteArray.toList_eq, Bs_list] at h
  exact hne h
 ·subst hs
  have : (((32 : UInt8).toNat : Int) != 32) = false := by decide
  rw [this]
  refine Ev_f (by rw [bp_]; omega) (Ev_t (by rw [bp_]; omega) (bb_ ?_))
  simp only [ai_.j0]
  rw [e6, e5]
  refine Ev_f (by decide) (Ev_t (by rw [bp_]; omega) (Ev_s (Ev_t (by rw [bp_]; omega) (Ev_b c1 (Ev_b f1 (Ev_t ?_ hr))))))
  rw [Go.ByteArray.toList_eq, Go.ByteArray.toList_eq, Bs_list]
  exact he
theorem parse_ok {x : Blk} (h : Ev (fun k => ay_.f k [x]) true) (hx : (x.f2.size : Int) ≤ 1048576) : Ev (fun k => ai_.f k (Bs (lineL x))) (x.f0, x.f1, x.f2, 0) := by
 have hl := restL_len h hx
 obtain ⟨a, b, _, _, _, _⟩ := one_parts h hx
 have a1 : (32 : UInt8) ∉ x.f0.data.toList := no_of (by decide) (fun y hy => (a y hy).1)
 have b1 : (32 : UInt8) ∉ x.f1.data.toList := no_of (by decide) (fun y hy => (b y hy).1)
 refine (parse_pre (fiveL (restL x)) 32 (restL x) (fiveL_len _) (by omega)).2.2 rfl rfl _ ?_
 have hsp : strings_SplitN.f (Bs (restL x)) (⟨#[32]⟩ : ByteArray) 3 = some [x.f0, x.f1, x.f2] := by
  have hs : (⟨#[32]⟩ : ByteArray) = Bs [32] := rfl
  have hl2 : 2 ≤ (restL x).length := by unfold restL; simp only [List.length_append, List.length_cons]; omega
  rw [hs, splitN_f (restL x) (by omega) 32, show min 3 ((restL x).length + 1) - 1 = 1 + 1 by omega]
  unfold restL
  rw [splitK_hit 32 _ _ a1, show (1 : Nat) = 0 + 1 from rfl, splitK_hit 32 _ _ b1, Go.Lib.splitK]
  simp only [List.map_cons, List.map_nil, cU_]
 obtain ⟨r, g1, g2⟩ := rest_ev (restL x) (by omega)
 rcases g2 with ⟨A, C, D, _, k1, bb, k2, k3⟩ | ⟨l, k1, k2, _⟩
 ·rw [hsp] at k1
  have e := Option.some.inj k1
  simp only [List.cons.injEq, and_true] at e
  obtain ⟨e0, e1, e2⟩ := e
  rw [← e0, ← e1, ← e2] at k2 k3
  have hbb : bb = true := Ev_one ⟨2000001, fun k hk => (k2 k (by omega)).2⟩ h
  rw [k3, if_pos hbb] at g1
  exact g1
 ·rw [hsp] at k2
  have e := Option.some.inj k2
  rw [← e] at k1
  simp at k1
theorem parse_bad {x : Blk} (h : Ev (fun k => ay_.f k [x]) true) (hx : (x.f2.size : Int) ≤ 1048576) (q : Nat) (hq : q < (lineL x).length) (c : UInt8) (hc : c ≠ (lineL x)[q]) : ∃ e : Int, e ≠ 0 ∧ Ev (fun k => ai_.f k (Bs ((lineL x).set q c))) (no4 e) := by
 have hl := restL_len h hx
 have h5 := fiveL_len (restL x)
 by_cases c1 : q < 5
 rotate_left
 ·by_cases c2 : q = 5
  rotate_left
  ·obtain ⟨p, rfl⟩ : ∃ p, q = 6 + p := ⟨q - 6, by omega⟩
   have hp : p < (restL x).length := by unfold lineL at hq; simp at hq; omega
   have e : (lineL x).set (6 + p) c = fiveL (restL x) ++ 32 :: (restL x).set p c := by
    unfold lineL
    rw [List.set_append, if_neg (by omega), h5, show 6 + p - 5 = p + 1 by omega]
    rfl
   have ec : (lineL x)[6 + p] = (restL x)[p] := by
    simp only [lineL]
    rw [List.getElem_append_right (by omega)]
    simp only [h5, show 6 + p - 5 = p + 1 by omega, List.getElem_cons_succ]
   rw [e]
   refine ⟨10, by decide, (parse_pre _ 32 ((restL x).set p c) h5 (by rw [List.length_set]; omega)).2.1 rfl (fun g => ?_)⟩
   have hA : restL x = (restL x).take p ++ (restL x)[p] :: (restL x).drop (p + 1) := by rw [← List.drop_eq_getElem_cons hp, List.take_append_drop]
   have hB : (restL x).set p c = (restL x).take p ++ c :: (restL x).drop (p + 1) := List.set_eq_take_append_cons_drop.trans (by rw [if_pos hp])
   have hd := crc_change ((restL x).take p) ((restL x).drop (p + 1)) (restL x)[p] c (fun g2 => hc (by rw [ec, g2]))
   rw [← hA, ← hB] at hd
   apply hd
   apply five_inj
   unfold fiveL at g
   rw [← cU_ (five _), g, cU_]
  subst c2
  have e : (lineL x).set 5 c = fiveL (restL x) ++ c :: restL x := by
   unfold lineL
   rw [List.set_append, if_neg (by omega), h5]
   rfl
  rw [e]
  refine ⟨9, by decide, (parse_pre _ c (restL x) h5 (by omega)).1 (fun g => ?_)⟩
  apply hc
  rw [g]
  simp only [lineL]
  rw [List.getElem_append_right (by omega)]
  simp [h5]
 have e : (lineL x).set q c = (fiveL (restL x)).set q c ++ 32 :: restL x := by unfold lineL; rw [List.set_append, if_pos (by omega)]
 rw [e]
 refine ⟨10, by decide, (parse_pre _ 32 (restL x) (by rw [List.length_set]; exact h5) (by omega)).2.1 rfl (fun g => ?_)⟩
 have g2 : ((fiveL (restL x)).set q c)[q]'(by rw [List.length_set]; omega) = (fiveL (restL x))[q]'(by omega) := by congr 1
 rw [List.getElem_set_self] at g2
 apply hc
 rw [g2]
 simp only [lineL]
 rw [List.getElem_append_left]
def hdrL (n : Nat) : List UInt8 := [97, 114, 99, 104, 105, 118, 101, 32] ++ Go.Lib.decDigits n
theorem hdr_no10 (n : Nat) : (10 : UInt8) ∉ hdrL n := by
 have f : (10 : UInt8) ∉ Go.Lib.decDigits n := no_of (by decide) (fun y hy => (dec_ch _ y hy).1)
 unfold hdrL
 rw [List.mem_append]
 exact fun e => e.elim (by decide) f
def arcL (m : List Blk) : List (List UInt8) := hdrL m.length :: m.map lineL
theorem line_val {x : Blk} (h : Ev (fun k => ay_.f k [x]) true) (hx : (x.f2.size : Int) ≤ 1048576) : Ev (fun k => cP_.f k [x]) (Bs (lineL x ++ [10])) := by
 obtain ⟨_, _, h0, h1, h2, _⟩ := one_parts h hx
 have hl := restL_len h hx
 have c1 := crc_val (restL x) (by omega)
 have hlt := crcN_lt (restL x) (show 65535 < 65536 by decide)
 have f1 := five_spec ((crcN 65535 (restL x) : Nat) : Int) (by omega) (by omega)
 have f5 := five_len ((crcN 65535 (restL x) : Nat) : Int) (by omega) (by omega)
 have r0 : aa_ [x] 0 = x := rfl
 have er : (((x.f0 ++ (⟨#[32]⟩ : ByteArray)) ++ x.f1) ++ (⟨#[32]⟩ : ByteArray)) ++ x.f2 = Bs (restL x) := by
  rw [← cU_ x.f0, ← cU_ x.f1, ← cU_ x.f2, show (⟨#[32]⟩ : ByteArray) = Bs [32] from rfl, Bs_app, Bs_app, Bs_app, Bs_app]
  congr 1
  simp [restL]
 have el : ((five ((crcN 65535 (restL x) : Nat) : Int) ++ (⟨#[32]⟩ : ByteArray)) ++ Bs (restL x)) ++ (⟨#[10]⟩ : ByteArray) = Bs (lineL x ++ [10]) := by
  rw [← cU_ (five _), show (⟨#[32]⟩ : ByteArray) = Bs [32] from rfl, show (⟨#[10]⟩ : ByteArray) = Bs [10] from rfl, Bs_app, Bs_app, Bs_app]
  congr 1
  simp [lineL, fiveL]
 simp only [cP_.f, r0, er]
 refine Ev_t (by simp) (Ev_t (by omega) (Ev_t (by omega) (Ev_t (by omega) (Ev_t (by omega) (Ev_b c1 (Ev_b f1 ?_))))))
 rw [el]
 exact Ev_t (by omega) (Ev_t (by omega) (Ev_t (by omega) (Ev_n rfl)))
theorem save_val (m : List Blk) (hl : m.length ≤ 32) (hok : Ev (fun k => aJ_.f k m) true) (h : ∀ y ∈ m, (y.f2.size : Int) ≤ 1048576 ∧ Ev (fun k => ay_.f k [y]) true) : Ev (fun k => cb_.f k m) (Bs (joinL (arcL m)), 0) := by
 have go : ∀ (R P : List Blk) (a : List UInt8), P ++ R = m → a.length ≤ 1000 + P.length * 1000 → Ev (fun k => bG_.l0 k m (Bs a) (P.length : Int)) (Bs (a ++ joinL (R.map lineL))) := by
  intro R
  induction R with
  | nil =>
   intro P a hP ha
   refine bb_ ?_
   simp only [bG_.l0]
   have : P.length = m.length := by rw [← hP]; simp
   exact Ev_f (by omega) (Ev_n (by simp [joinL]))
  | cons x R ih =>
   intro P a hP ha
   have hpl : m.length = P.length + 1 + R.length := by rw [← hP]; simp; omega
   obtain ⟨x1, x2⟩ := h x (by rw [← hP]; simp)
   have hrd : aa_ m (P.length : Int) = x := by subst hP; unfold aa_; exact getD_at P R _ x _ rfl
   have hv := line_val x2 x1
   have hrl := restL_len x2 x1
   have h5 := fiveL_len (restL x)
   have hll : (lineL x ++ [10]).length ≤ 1000 := by unfold lineL; simp only [List.length_append, List.length_cons, List.length_nil]; omega
   have nx := ih (P ++ [x]) (a ++ (lineL x ++ [10])) (by simpa using hP) (by rw [List.length_append]; have := (show (P ++ [x]).length = P.length + 1 by simp); omega)
   rw [show (P ++ [x]).length = P.length + 1 by simp] at nx
   refine bb_ ?_
   simp only [bG_.l0]
   rw [hrd, wr64s _ (by omega)]
   refine Ev_t (by omega) (Ev_t (by omega) (Ev_b hv (Ev_t (by rw [bp_, bp_]; omega) ?_)))
   rw [Bs_app]
   have e : a ++ joinL ((x :: R).map lineL) = a ++ (lineL x ++ [10]) ++ joinL (R.map lineL) := by simp [joinL]
   rw [e]
   exact nx
 simp only [cb_.f]
 refine Ev_b hok (Ev_t rfl (Ev_b (a := Bs (joinL (arcL m))) ?_ (Ev_n rfl)))
 simp only [bG_.f]
 have hd := dec_ev (m.length : Int) (by omega) (by omega)
 have hdl : (Go.Lib.decDigits m.length).length ≤ 21 := by
  have := Go.Lib.itoa_length_le (m.length : Int) (by omega) (by omega)
  rw [Go.Lib.itoa_nonneg] at this
  exact this
 have hi : its (m.length : Int) = Bs (Go.Lib.decDigits m.length) := by unfold its; rw [Go.Lib.itoa_nonneg]
 rw [hi] at hd
 have e0 : ((⟨#[97, 114, 99, 104, 105, 118, 101, 32]⟩ : ByteArray) ++ Bs (Go.Lib.decDigits m.length)) ++ (⟨#[10]⟩ : ByteArray) = Bs (hdrL m.length ++ [10]) := by
  rw [show (⟨#[97, 114, 99, 104, 105, 118, 101, 32]⟩ : ByteArray) = Bs [97, 114, 99, 104, 105, 118, 101, 32] from rfl, show (⟨#[10]⟩ : ByteArray) = Bs [10] from rfl, Bs_app, Bs_app]
  rfl
 refine Ev_b hd (Ev_t (by rw [bp_]; omega) (Ev_t (by rw [bp_]; omega) ?_))
 rw [e0]
 have g := go m [] (hdrL m.length ++ [10]) rfl (by unfold hdrL; simp only [List.length_append, List.length_cons, List.length_nil]; omega)
 have e : hdrL m.length ++ [10] ++ joinL (m.map lineL) = joinL (arcL m) := by simp [arcL, joinL]
 rw [e] at g
 exact g
theorem arc_no10 (m : List Blk) (h : ∀ y ∈ m, (y.f2.size : Int) ≤ 1048576 ∧ Ev (fun k => ay_.f k [y]) true) : ∀ l ∈ arcL m, (10 : UInt8) ∉ l := by
 intro l hl
 unfold arcL at hl
 rcases List.mem_cons.1 hl with e | e
 ·rw [e]; exact hdr_no10 _
 ·obtain ⟨x, hx, rfl⟩ := List.mem_map.1 e
  exact line_no10 (h x hx).2 (h x hx).1
def spi (l : List UInt8) : Int := if l = [97, 115, 104] then 0 else if l = [98, 101, 101, 99, 104] then 1 else if l = [98, 105, 114, 99, 104] then 2 else if l = [99, 104, 101, 114, 114, 121] then 3 else if l = [101, 98, 111, 110, 121] then 4 else if l = [104, 111, 108, 108, 121] then 5 else if l = [109, 97, 112, 108, 101] then 6 else if l = [111, 97, 107] then 7 else if l = [114, 111, 115, 101, 119, 111, 111, 100] then 8 else if l = [119, 97, 108, 110, 117, 116] then 9 else -1
def shades : List Int := [20, 35, 15, 50, 95, 5, 10, 40, 80, 70]
def vVen (l : List UInt8) (sh gr : Int) : Bool := decide (0 ≤ spi l) && ((decide (0 ≤ sh) && decide (sh ≤ 100)) && ((decide (rd shades (spi l) - 15 ≤ sh) && decide (sh ≤ rd shades (spi l) + 15)) && (decide (0 ≤ gr) && decide (gr ≤ 179))))
theorem shade_of (i : Int) (h0 : 0 ≤ i) (h1 : i ≤ 9) : ∃ t, cG_.f = some t ∧ i < t.length ∧ 0 < (rd_L4 t i).length ∧ rd (rd_L4 t i) 0 = rd shades i ∧ 0 ≤ rd shades i ∧ rd shades i ≤ 100 := by
 refine ⟨_, rfl, ?_⟩
 obtain ⟨n, rfl⟩ := Int.eq_ofNat_of_zero_le h0
 have hn : n ≤ 9 := by omega
 match n, hn with
 | 0, _ => decide
 | 1, _ => decide
 | 2, _ => decide
 | 3, _ => decide
 | 4, _ => decide
 | 5, _ => decide
 | 6, _ => decide
 | 7, _ => decide
 | 8, _ => decide
 | 9, _ => decide
def u8s (c : List Int) : Prop := (c.length : Int) ≤ 1048576 ∧ ∀ x ∈ c, 0 ≤ x ∧ x < 256
theorem u64w (n : Int) : IntKind.u64.wrap n = n % 18446744073709551616 := by simp [IntKind.wrap, IntKind.bits, IntKind.signed]
theorem p64 : (2 : Int) ^ 64 = 18446744073709551616 := by decide
theorem u64wr (n : Int) (h0 : 0 ≤ n) (h1 : n < 2 ^ 64) : IntKind.u64.wrap n = n := by
 rw [p64] at h1
 rw [u64w]
 omega
theorem and255 (x : Int) (h : 0 ≤ x) (h2 : x < 18446744073709551616) : Go.bits .and .u64 x 255 = x % 256 := by
 have h3 : x < 2 ^ 64 := by rw [p64]; exact h2
 exact bits_mask .u64 64 (by decide) u64wr 8 (by decide) x h h3
theorem high_byte (z : Int) : 0 ≤ wrap64 (Go.bits .and .u64 (IntKind.u64.wrap z / 1099511627776) 255) ∧ wrap64 (Go.bits .and .u64 (IntKind.u64.wrap z / 1099511627776) 255) < 256 := by
 rw [u64w, and255 _ (by omega) (by omega), wr64 (by omega) (by omega)]
 omega
theorem next_ok (c : List Int) (hc : u8s c) (a s : Int) (h0 : 0 ≤ a) (h1 : a < 4611686018427387904) : ∃ v s', bF_.f c a s = some (v, a + 1, s') ∧ 0 ≤ v ∧ v < 256 := by
 have ha : wrap64 (a + 1) = a + 1 := wr64 (by omega) (by omega)
 unfold bF_.f
 rw [ha]
 by_cases c1 : a < (c.length : Int)
 rotate_left
 ·rw [if_neg c1]
  rw [if_neg (by omega)]
  have hb := high_byte ((IntKind.u64.wrap ((IntKind.u64.wrap (s * 6364136223846793005)))) + 1442695040888963407)
  exact ⟨_, _, rfl, hb.1, hb.2⟩
 rw [if_pos c1, if_pos h0, if_pos (by omega)]
 have hv : 0 ≤ rd c a ∧ rd c a < 256 := by
  unfold rd
  have hi : a.toNat < c.length := by omega
  rw [List.getD_eq_getElem?_getD, List.getElem?_eq_getElem hi]
  exact hc.2 _ (List.getElem_mem hi)
 rw [wr64 (x := rd c a) (by omega) (by omega)]
 exact ⟨_, _, rfl, hv.1, hv.2⟩
theorem cA_ (c : List Int) (hc : u8s c) (a s n : Int) (h0 : 0 ≤ a) (h1 : a < 4611686018427387000) (hn : n < 65536) : ∃ v a' s', aj_.f c a s n = some (v, a', s') ∧ a ≤ a' ∧ a' ≤ a + 2 ∧ 0 ≤ v ∧ (0 < n → v < n) := by
 unfold aj_.f
 by_cases c1 : n ≤ 1
 rotate_left
 ·rw [if_neg c1]
  obtain ⟨v, s1, e1, v0, v1⟩ := next_ok c hc a s h0 (by omega)
  rw [e1]
  simp only [Option.bind_some]
  by_cases c2 : n > 200
  rotate_left
  ·rw [if_neg c2, if_neg (by omega)]
   refine ⟨_, _, _, rfl, by omega, by omega, Int.tmod_nonneg _ (by omega), fun _ => Int.tmod_lt_of_pos _ (by omega)⟩
  rw [if_pos c2]
  obtain ⟨v2, s2, e2, w0, w1⟩ := next_ok c hc (a + 1) s1 (by omega) (by omega)
  rw [e2]
  simp only [Option.bind_some]
  rw [if_neg (by omega), wr64 (x := v * 256) (by omega) (by omega), wr64 (by omega) (by omega)]
  refine ⟨_, _, _, rfl, by omega, by omega, Int.tmod_nonneg _ (by omega), fun _ => Int.tmod_lt_of_pos _ (by omega)⟩
 rw [if_pos c1]; exact ⟨0, a, s, rfl, by omega, by omega, by omega, by omega⟩
theorem text_ok (c : List Int) (hc : u8s c) (a s : Int) (l : List ByteArray) (h0 : 0 ≤ a) (h1 : a < 4611686018427387000) (hl : 0 < l.length) (hl2 : (l.length : Int) < 65536) : ∃ v a' s', aR_.f c a s l = some (v, a', s') ∧ a ≤ a' ∧ a' ≤ a + 2 ∧ v ∈ l := by
 unfold aR_.f
 obtain ⟨v, a', s', e, h2, h3, v0, v1⟩ := cA_ c hc a s (l.length : Int) h0 h1 hl2
 have hv := v1 (by omega)
 rw [e]
 simp only [Option.bind_some]
 rw [if_pos v0, if_pos hv]
 refine ⟨_, _, _, rfl, h2, h3, ?_⟩
 unfold rdOf
 have hi : v.toNat < l.length := by omega
 rw [List.getD_eq_getElem?_getD, List.getElem?_eq_getElem hi]
 exact List.getElem_mem hi
theorem among_ok (c : List Int) (hc : u8s c) (a s : Int) (l : List Int) (h0 : 0 ≤ a) (h1 : a < 4611686018427387000) (hl : 0 < l.length) (hl2 : (l.length : Int) < 65536) : ∃ v a' s', bU_.f c a s l = some (v, a', s') ∧ a ≤ a' ∧ a' ≤ a + 2 ∧ v ∈ l := by
 unfold bU_.f
 obtain ⟨v, a', s', e, h2, h3, v0, v1⟩ := cA_ c hc a s (l.length : Int) h0 h1 hl2
 have hv := v1 (by omega)
 rw [e]
 simp only [Option.bind_some]
 rw [if_pos v0, if_pos hv]
 refine ⟨_, _, _, rfl, h2, h3, ?_⟩
 unfold rd
 have hi : v.toNat < l.length := by omega
 rw [List.getD_eq_getElem?_getD, List.getElem?_eq_getElem hi]
 exact List.getElem_mem hi
theorem one_ok (c : List Int) (hc : u8s c) (a s n : Int) (h0 : 0 ≤ a) (h1 : a < 4611686018427387000) (hn : n < 65536) : ∃ v a' s', by_.f c a s n = some (v, a', s') ∧ a ≤ a' ∧ a' ≤ a + 2 := by
 unfold by_.f
 obtain ⟨v, a', s', e, h2, h3, v0, v1⟩ := cA_ c hc a s n h0 h1 hn
 rw [e]
 exact ⟨_, _, _, rfl, h2, h3⟩
theorem strOf_size (l : List Int) : (strOfNums l).size = l.length := by
 unfold strOfNums
 show (List.toArray _).size = _
 simp
theorem word_loop (c : List Int) (hc : u8s c) : ∀ (n : Nat) (x : List Int) (a s : Int), n < 60000 → x.length + n ≤ 60000 → 0 ≤ a → a + n < 4611686018427387000 → ∃ v a' s', Ev (fun k => aQ_.l0 k x n c a s) (v, a', s') ∧ a ≤ a' ∧ a' ≤ a + n ∧ v.size = x.length + n
 | 0, x, a, s, _, _, _, _ => ⟨strOfNums x, a, s, by refine bb_ ?_; simp only [aQ_.l0]; exact Ev_f (by simp) (Ev_n rfl), by omega, by omega, by rw [strOf_size]; rfl⟩
 | n + 1, x, a, s, hn, hx, h0, h1 => by
  obtain ⟨v, s1, e1, v0, v1⟩ := next_ok c hc a s h0 (by omega)
  obtain ⟨v2, a', s', h2, h3, h4, h5⟩ := word_loop c hc n (x ++ [v % 256]) (a + 1) s1 (by omega) (by simp; omega) (by omega) (by omega)
  refine ⟨v2, a', s', ?_, by omega, by omega, by rw [h5]; simp; omega⟩
  refine bb_ ?_
  simp only [aQ_.l0]
  refine Ev_t (by omega) (Ev_b (Ev_c e1) (Ev_t (by omega) ?_))
  rw [wr64 (by omega) (by omega), show (((n + 1 : Nat) : Int) - 1) = (n : Int) by omega]
  exact h2
theorem word_ok (c : List Int) (hc : u8s c) (a s n : Int) (h0 : 0 ≤ a) (h1 : a < 4611686018427300000) (hn : n < 60000) (hn0 : 0 < n) : ∃ v a' s', Ev (fun k => aQ_.f k c a s n) (v, a', s') ∧ a ≤ a' ∧ a' ≤ a + 2 + n ∧ (v.size : Int) < n := by
 obtain ⟨v, a1, s1, e, h2, h3, v0, v1⟩ := cA_ c hc a s n h0 (by omega) (by omega)
 have hv := v1 hn0
 obtain ⟨v2, a', s', h4, h5, h6, h7⟩ := word_loop c hc v.toNat [] a1 s1 (by omega) (by simp; omega) (by omega) (by omega)
 refine ⟨v2, a', s', ?_, by omega, by omega, by rw [h7]; simp; omega⟩
 unfold aQ_.f
 refine Ev_b (Ev_c e) ?_
 simp only []
 rw [show v = ((v.toNat : Nat) : Int) by omega]
 exact h4
theorem max_f (a b : Int) : ∃ v, cr_.f a b = some v ∧ ((a ≤ b ∧ v = b) ∨ (b ≤ a ∧ v = a)) := by
 unfold cr_.f
 by_cases h : a > b
 rotate_left
 ·rw [if_neg h]; exact ⟨b, rfl, Or.inl ⟨by omega, rfl⟩⟩
 rw [if_pos h]; exact ⟨a, rfl, Or.inr ⟨by omega, rfl⟩⟩
theorem min_f (a b : Int) : ∃ v, bS_.f a b = some v ∧ ((a ≤ b ∧ v = a) ∨ (b ≤ a ∧ v = b)) := by
 unfold bS_.f
 by_cases h : a < b
 rotate_left
 ·rw [if_neg h]; exact ⟨b, rfl, Or.inr ⟨by omega, rfl⟩⟩
 rw [if_pos h]; exact ⟨a, rfl, Or.inl ⟨by omega, rfl⟩⟩
theorem name_of (i : Int) (h0 : 0 ≤ i) (h1 : i ≤ 9) : ∃ t, cn_.f = some t ∧ i < t.length ∧ spi (rdOf ByteArray.empty t i).toList = i ∧ (rdOf ByteArray.empty t i).size ≤ 8 := by
 unfold cn_.f
 have hi : i = 0 ∨ i = 1 ∨ i = 2 ∨ i = 3 ∨ i = 4 ∨ i = 5 ∨ i = 6 ∨ i = 7 ∨ i = 8 ∨ i = 9 := by omega
 rcases hi with rfl | rfl | rfl | rfl | rfl | rfl | rfl | rfl | rfl | rfl <;> exact ⟨_, rfl, by decide, by decide +kernel, by decide +kernel⟩
theorem l07Draw_ok (c : List Int) (hc : u8s c) (a s : Int) (h0 : 0 ≤ a) (h1 : a < 4611686018427380000) : ∃ n sh g a' s', bh_.f c a s = some (n, sh, g, a', s') ∧ a ≤ a' ∧ a' ≤ a + 8 ∧ n.size ≤ 8 ∧ vVen n.toList sh g = true := by
 obtain ⟨k, a1, s1, e1, p1, q1, k0, k1⟩ := cA_ c hc a s 10 h0 (by omega) (by omega)
 have hk := k1 (by omega)
 obtain ⟨t, et, t1, t2, t3, t4, t5⟩ := shade_of k k0 (by omega)
 obtain ⟨m, em, m1, m2, m3⟩ := name_of k k0 (by omega)
 obtain ⟨d, a2, s2, e2, p2, q2, d0, d1⟩ := cA_ c hc a1 s1 21 (by omega) (by omega) (by omega)
 have hd := d1 (by omega)
 obtain ⟨g, a3, s3, e3, p3, q3, g0, g1⟩ := cA_ c hc a2 s2 180 (by omega) (by omega) (by omega)
 have hg := g1 (by omega)
 obtain ⟨r, a4, s4, e4, p4, q4, hr⟩ := among_ok c hc a3 s3 [g, g, 0, 90, 45] (by omega) (by omega) (by simp) (by simp)
 obtain ⟨x, ex, hx⟩ := max_f 0 (wrap64 (wrap64 (rd (rd_L4 t k) 0 + d) - 10))
 obtain ⟨y, ey, hy⟩ := min_f 100 x
 have w1 : wrap64 (wrap64 (rd (rd_L4 t k) 0 + d) - 10) = rd shades k + d - 10 := by rw [t3, wr64 (x := rd shades k + d) (by omega) (by omega), wr64 (by omega) (by omega)]
 rw [w1] at hx
 refine ⟨rdOf ByteArray.empty m k, y, r, a4, s4, ?_, by omega, by omega, m3, ?_⟩
 ·unfold bh_.f
  rw [e1]
  simp only [Option.bind_some]
  rw [et]
  simp only [Option.bind_some]
  rw [if_pos k0, if_pos t1, if_pos (by omega), e2]
  simp only [Option.bind_some]
  rw [em]
  simp only [Option.bind_some]
  rw [if_pos m1, ex]
  simp only [Option.bind_some]
  rw [ey]
  simp only [Option.bind_some]
  rw [e3]
  simp only [Option.bind_some]
  rw [e4]
  rfl
 ·have hr2 : 0 ≤ r ∧ r ≤ 179 := by
   simp only [List.mem_cons, List.not_mem_nil, or_false] at hr
   omega
  unfold vVen
  rw [m2]
  simp only [Bool.and_eq_true, decide_eq_true_eq]
  omega
def dbox (b : S107) (w h : Int) : Prop := 0 ≤ b.f0 ∧ 0 ≤ b.f1 ∧ 1 ≤ b.f2 ∧ 1 ≤ b.f3 ∧ b.f0 + b.f2 ≤ w ∧ b.f1 + b.f3 ≤ h
theorem box_draw (c : List Int) (hc : u8s c) (a s w h : Int) (h0 : 0 ≤ a) (h1 : a < 4611686018427380000) (hw : 100 ≤ w ∧ w < 1000) (hh : 100 ≤ h ∧ h < 1000) : ∃ x y p q a' s', ct_.f c a s w h = some (x, y, p, q, a', s') ∧ a ≤ a' ∧ a' ≤ a + 8 ∧ dbox (⟨x, y, p, q⟩ : S107) w h := by
 obtain ⟨x, a1, s1, e1, p1, q1, x0, x1⟩ := cA_ c hc a s (w - 2) h0 (by omega) (by omega)
 have hx := x1 (by omega)
 obtain ⟨y, a2, s2, e2, p2, q2, y0, y1⟩ := cA_ c hc a1 s1 (h - 2) (by omega) (by omega) (by omega)
 have hy := y1 (by omega)
 obtain ⟨m, em, hm⟩ := min_f 60 (w - x)
 obtain ⟨p, a3, s3, e3, p3, q3, z0, z1⟩ := cA_ c hc a2 s2 m (by omega) (by omega) (by omega)
 have hp := z1 (by omega)
 obtain ⟨n, en, hn⟩ := min_f 60 (h - y)
 obtain ⟨q, a4, s4, e4, p4, q4, u0, u1⟩ := cA_ c hc a3 s3 n (by omega) (by omega) (by omega)
 have hq := u1 (by omega)
 refine ⟨x, y, 1 + p, 1 + q, a4, s4, ?_, by omega, by omega, by unfold dbox; dsimp only; omega⟩
 unfold ct_.f
 rw [wr64 (x := w - 2) (by omega) (by omega), wr64 (x := h - 2) (by omega) (by omega), e1]
 simp only [Option.bind_some]
 rw [e2]
 simp only [Option.bind_some]
 rw [wr64 (x := w - x) (by omega) (by omega), em]
 simp only [Option.bind_some]
 rw [e3]
 simp only [Option.bind_some]
 rw [wr64 (x := h - y) (by omega) (by omega), en]
 simp only [Option.bind_some]
 rw [e4]
 simp only [Option.bind_some]
 rw [wr64 (x := 1 + p) (by omega) (by omega), wr64 (x := 1 + q) (by omega) (by omega)]
theorem boxes_loop (c : List Int) (hc : u8s c) (id fl nm : ByteArray) (nu sh g w h : Int) (hw : 100 ≤ w ∧ w < 1000) (hh : 100 ≤ h ∧ h < 1000) : ∀ (n : Nat) (a s : Int) (bs : List S107), bs.length + n ≤ 3 → 0 ≤ a → a + 8 * n < 4611686018427380000 → (∀ b ∈ bs, dbox b w h) →
  ∃ bs' a' s', Ev (fun k => aH_.l0 k n c a s id fl nu nm sh g w h bs) (id, fl, nu, nm, sh, g, w, h, bs', a', s') ∧ a ≤ a' ∧ a' ≤ a + 8 * n ∧ bs'.length ≤ 3 ∧ ∀ b ∈ bs', dbox b w h
 | 0, a, s, bs, hl, h0, h1, hb => ⟨bs, a, s, by refine bb_ ?_; simp only [aH_.l0]; exact Ev_f (by simp) (Ev_n rfl), by omega, by omega, by omega, hb⟩
 | n + 1, a, s, bs, hl, h0, h1, hb => by
  obtain ⟨x, y, p, q, a1, s1, e1, p1, q1, hd⟩ := box_draw c hc a s w h h0 (by omega) hw hh
  obtain ⟨bs', a', s', h2, h3, h4, h5, h6⟩ := boxes_loop c hc id fl nm nu sh g w h hw hh n a1 s1 (bs ++ [(⟨x, y, p, q⟩ : S107)]) (by simp; omega) (by omega) (by omega) (by
   intro b hb2
   rcases List.mem_append.1 hb2 with g | g
   ·exact hb b g
   ·rw [List.mem_singleton.1 g]; exact hd)
  refine ⟨bs', a', s', ?_, by omega, by omega, h5, h6⟩
  refine bb_ ?_
  simp only [aH_.l0]
  refine Ev_t (by omega) (Ev_b (Ev_c e1) (Ev_t (by omega) ?_))
  rw [wr64 (by omega) (by omega), show (((n + 1 : Nat) : Int) - 1) = (n : Int) by omega]
  exact h2
def dleaf (x : S97) : Prop := x.f1.size = 2 ∧ (x.f1 = (⟨#[102, 49]⟩ : ByteArray) ∨ x.f1 = (⟨#[102, 50]⟩ : ByteArray)) ∧ (0 ≤ x.f2 ∧ x.f2 < 20) ∧ x.f3.f0.size ≤ 8 ∧ vVen x.f3.f0.toList x.f3.f1 x.f3.f2 = true ∧ (100 ≤ x.f4 ∧ x.f4 < 1000) ∧ (100 ≤ x.f5 ∧ x.f5 < 1000) ∧ x.f6.length ≤ 3 ∧ ∀ b ∈ x.f6, dbox b x.f4 x.f5
theorem leaf_draw (c : List Int) (hc : u8s c) (a s : Int) (id : ByteArray) (h0 : 0 ≤ a) (h1 : a < 4611686018427300000) : ∃ (x : S97) (a' s' : Int), Ev (fun k => aH_.f k c a s id) (x.f0, x.f1, x.f2, x.f3.f0, x.f3.f1, x.f3.f2, x.f4, x.f5, x.f6, a', s') ∧ a ≤ a' ∧ a' ≤ a + 50 ∧ x.f0 = id ∧ dleaf x := by
 obtain ⟨fl, a1, s1, e1, p1, q1, hf⟩ := text_ok c hc a s [(⟨#[102, 49]⟩ : ByteArray), (⟨#[102, 50]⟩ : ByteArray)] h0 (by omega) (by simp) (by simp)
 obtain ⟨nu, a2, s2, e2, p2, q2, n0, n1⟩ := cA_ c hc a1 s1 20 (by omega) (by omega) (by omega)
 have hn := n1 (by omega)
 obtain ⟨nm, sh, g, a3, s3, e3, p3, q3, z3, hv⟩ := l07Draw_ok c hc a2 s2 (by omega) (by omega)
 obtain ⟨w, a4, s4, e4, p4, q4, w0, w1⟩ := cA_ c hc a3 s3 900 (by omega) (by omega) (by omega)
 have hw := w1 (by omega)
 obtain ⟨h, a5, s5, e5, p5, q5, v0, v1⟩ := cA_ c hc a4 s4 900 (by omega) (by omega) (by omega)
 have hh := v1 (by omega)
 obtain ⟨n, a6, s6, e6, p6, q6, m0, m1⟩ := cA_ c hc a5 s5 4 (by omega) (by omega) (by omega)
 have hm := m1 (by omega)
 obtain ⟨bs, a7, s7, h7, p7, q7, l7, b7⟩ := boxes_loop c hc id fl nm nu sh g (100 + w) (100 + h) (by omega) (by omega) n.toNat a6 s6 [] (by simp; omega) (by omega) (by omega) (by simp)
 refine ⟨(⟨id, fl, nu, (⟨nm, sh, g⟩ : S94), 100 + w, 100 + h, bs⟩ : S97), a7, s7, ?_, by omega, by omega, rfl, ?_⟩
 ·simp only [aH_.f]
  refine Ev_b (Ev_c e1) (Ev_b (Ev_c e2) (Ev_b (Ev_c e3) (Ev_b (Ev_c e4) (Ev_b (Ev_c e5) (Ev_b (Ev_c e6) ?_)))))
  dsimp only
  rw [wr64 (x := 100 + w) (by omega) (by omega), wr64 (x := 100 + h) (by omega) (by omega)]
  have hn2 : ((n.toNat : Nat) : Int) = n := by omega
  rw [hn2] at h7
  exact h7
 ·simp only [List.mem_cons, List.not_mem_nil, or_false] at hf
  unfold dleaf
  refine ⟨?_, hf, ⟨n0, hn⟩, z3, hv, ⟨by dsimp only; omega, by dsimp only; omega⟩, ⟨by dsimp only; omega, by dsimp only; omega⟩, l7, b7⟩
  rcases hf with rfl | rfl <;> rfl
abbrev lessB (x y : Blk) : Prop := cB (ckB x) (ckB y) < 0
theorem rsg_pw {l : List Blk} (h : l.Pairwise lessB) (t : List UInt8 × List UInt8) : Rsg (fun x => cB (ckB x) t) l := by
 intro i j hi hj h0
 exact cB_ord.step ((List.pairwise_iff_getElem.1 h) i j (by omega) hj hi) h0
theorem less_irr (x : Blk) : ¬ lessB x x := by
 intro h
 have := (cB_ord.zero (ckB x) (ckB x)).2 rfl
 unfold lessB at h
 omega
theorem less_asym {x y : Blk} (h : lessB x y) : ¬ lessB y x := by
 intro h2
 have := (cB_ord.anti (ckB x) (ckB y)).1 h
 unfold lessB at h2
 omega
theorem pw_ext : ∀ (l m : List Blk), l.Pairwise lessB → m.Pairwise lessB → (∀ x, x ∈ l ↔ x ∈ m) → l = m
 | [], [], _, _, _ => rfl
 | [], y :: m, _, _, h => by have := (h y).2 List.mem_cons_self; cases this
 | x :: l, [], _, _, h => by have := (h x).1 List.mem_cons_self; cases this
 | x :: l, y :: m, h1, h2, h => by
  obtain ⟨a1, a2⟩ := List.pairwise_cons.1 h1
  obtain ⟨b1, b2⟩ := List.pairwise_cons.1 h2
  have e : x = y := by
   rcases List.mem_cons.1 ((h x).1 List.mem_cons_self) with e | e
   ·exact e
   ·rcases List.mem_cons.1 ((h y).2 List.mem_cons_self) with e' | e'
    ·exact e'.symm
    ·exact absurd (a1 y e') (less_asym (b1 x e))
  subst e
  congr 1
  refine pw_ext l m a2 b2 (fun z => ⟨fun hz => ?_, fun hz => ?_⟩)
  ·rcases List.mem_cons.1 ((h z).1 (List.mem_cons_of_mem _ hz)) with e | e
   ·subst e; exact absurd (a1 z hz) (less_irr z)
   ·exact e
  ·rcases List.mem_cons.1 ((h z).2 (List.mem_cons_of_mem _ hz)) with e | e
   ·subst e; exact absurd (b1 z hz) (less_irr z)
   ·exact e
theorem ahead_lt {l : List Blk} {t : List UInt8 × List UInt8} {x : Blk} (h : x ∈ l.take (plc (fun x => cB (ckB x) t) l)) : cB (ckB x) t < 0 := by
 obtain ⟨i, hi, rfl⟩ := List.mem_iff_getElem.1 h
 rw [List.getElem_take]
 exact plc_lt (fun x => cB (ckB x) t) l i (by simp at hi; omega) (by simp at hi; omega)
theorem behind_gt {l : List Blk} {t : List UInt8 × List UInt8} (hr : Rsg (fun x => cB (ckB x) t) l) {x : Blk} (h : x ∈ l.drop (plc (fun x => cB (ckB x) t) l + 1)) : 0 < cB (ckB x) t := by
 obtain ⟨i, hi, rfl⟩ := List.mem_iff_getElem.1 h
 rw [List.getElem_drop]
 exact hr.gt _ (by simp at hi; omega) (by omega)
theorem put_pw {l : List Blk} (h : l.Pairwise lessB) (b : Blk) : (putB l b).Pairwise lessB := by
 have hr := rsg_pw h (ckB b)
 have hp := plc_le (fun x => cB (ckB x) (ckB b)) l
 have key : ∀ q, (∀ x ∈ l.drop q, 0 < cB (ckB x) (ckB b)) → plc (fun x => cB (ckB x) (ckB b)) l ≤ q → (l.take (plc (fun x => cB (ckB x) (ckB b)) l) ++ b :: l.drop q).Pairwise lessB := by
  intro q hq hle
  rw [List.pairwise_append]
  refine ⟨h.sublist (List.take_sublist _ _), ?_, ?_⟩
  ·rw [List.pairwise_cons]
   exact ⟨fun y hy => (cB_ord.anti _ _).2 (hq y hy), h.sublist (List.drop_sublist _ _)⟩
  ·intro x hx y hy
   have hx0 := ahead_lt hx
   rcases List.mem_cons.1 hy with e | e
   ·subst e; exact hx0
   ·exact cB_ord.trans _ _ _ hx0 ((cB_ord.anti _ _).2 (hq y e))
 unfold putB
 split
 ·exact key _ (fun x hx => behind_gt hr hx) (by omega)
 ·rename_i hf
  refine key _ (fun x hx => ?_) (Nat.le_refl _)
  obtain ⟨i, hi, rfl⟩ := List.mem_iff_getElem.1 hx
  rw [List.getElem_drop]
  simp at hi
  have hn := fnd_f hr (by simpa using hf) (plc (fun x => cB (ckB x) (ckB b)) l + i) (by omega)
  rcases Nat.eq_zero_or_pos i with g | g
  ·subst g
   have := plc_at (fun x => cB (ckB x) (ckB b)) l (by omega)
   simp only [Nat.add_zero] at hn ⊢
   omega
  ·exact hr.gt _ (by omega) (by omega)
theorem put_mem {l : List Blk} (h : l.Pairwise lessB) (b x : Blk) : x ∈ putB l b ↔ x = b ∨ (x ∈ l ∧ cB (ckB x) (ckB b) ≠ 0) := by
 have hr := rsg_pw h (ckB b)
 have hp := plc_le (fun x => cB (ckB x) (ckB b)) l
 unfold putB
 split
 ·rename_i hf
  obtain ⟨hlt, hz⟩ := fnd_t hf
  rw [List.mem_append, List.mem_cons]
  constructor
  ·rintro (q | q | q)
   ·exact .inr ⟨List.mem_of_mem_take q, by have := ahead_lt q; omega⟩
   ·exact .inl q
   ·exact .inr ⟨List.mem_of_mem_drop q, by have := behind_gt hr q; omega⟩
  ·rintro (q | ⟨q1, q2⟩)
   ·exact .inr (.inl q)
   ·rw [← List.take_append_drop (plc (fun x => cB (ckB x) (ckB b)) l) l, List.mem_append, List.drop_eq_getElem_cons hlt, List.mem_cons] at q1
    rcases q1 with q | q | q
    ·exact .inl q
    ·subst q; exact absurd hz q2
    ·exact .inr (.inr q)
 ·rename_i hf
  rw [List.mem_append, List.mem_cons]
  constructor
  ·rintro (q | q | q)
   ·exact .inr ⟨List.mem_of_mem_take q, by have := ahead_lt q; omega⟩
   ·exact .inl q
   ·refine .inr ⟨List.mem_of_mem_drop q, ?_⟩
    obtain ⟨i, hi, rfl⟩ := List.mem_iff_getElem.1 (List.mem_of_mem_drop q)
    exact fnd_f hr (by simpa using hf) i hi
  ·rintro (q | ⟨q1, q2⟩)
   ·exact .inr (.inl q)
   ·rw [← List.take_append_drop (plc (fun x => cB (ckB x) (ckB b)) l) l, List.mem_append] at q1
    rcases q1 with q | q
    ·exact .inl q
    ·exact .inr (.inr q)
theorem put_len (l : List Blk) (b : Blk) : (putB l b).length ≤ l.length + 1 := by
 have hp := plc_le (fun x => cB (ckB x) (ckB b)) l
 unfold putB
 split <;> simp <;> omega
theorem ne_of_less {x y : Blk} (h : lessB x y) : cB (ckB x) (ckB y) ≠ 0 ∧ cB (ckB y) (ckB x) ≠ 0 := by
 have := (cB_ord.anti (ckB x) (ckB y)).1 h
 unfold lessB at h
 exact ⟨by omega, by omega⟩
def icat : List (List UInt8) → List UInt8
 | [] => []
 | [x] => x
 | x :: y :: r => x ++ 44 :: icat (y :: r)
theorem icat_snoc (z : List UInt8) : ∀ xs, xs ≠ [] → icat (xs ++ [z]) = icat xs ++ 44 :: z
 | [], h => absurd rfl h
 | [x], _ => rfl
 | x :: y :: r, _ => by
  have := icat_snoc z (y :: r) (by simp)
  rw [List.cons_append, List.cons_append, icat, ← List.cons_append, this, icat]
  simp
theorem icat_len (n : Nat) : ∀ xs : List (List UInt8), (∀ x ∈ xs, x.length ≤ n) → (icat xs).length ≤ xs.length * (n + 1)
 | [], _ => by simp [icat]
 | [x], h => by
  have := h x (by simp)
  simp only [icat, List.length_cons, List.length_nil]
  omega
 | x :: y :: r, h => by
  have h1 := h x (by simp)
  have h2 := icat_len n (y :: r) (fun z hz => h z (List.mem_cons_of_mem _ hz))
  simp only [icat, List.length_append, List.length_cons] at h2 ⊢
  rw [Nat.add_mul (r.length + 1) 1]
  omega
def nmOk (x : Int) : Prop := -1000000000000 ≤ x ∧ x ≤ 1000000000000
def itl (l : List Int) : List (List UInt8) := l.map Go.Lib.itoa
def LT_ (l : List Int) : ByteArray := if l = [] then Bs [45] else Bs (icat (itl l))
theorem itoa_short (n : Int) (h : nmOk n) : (Go.Lib.itoa n).length ≤ 21 := Go.Lib.itoa_length_le n (by unfold nmOk at h; omega) (by unfold nmOk at h; omega)
theorem itl_len (l : List Int) (hl : l.length ≤ 64) (hb : ∀ x ∈ l, nmOk x) : (icat (itl l)).length ≤ 1408 := by
 have := icat_len 21 (itl l) (fun x hx => by
  obtain ⟨n, hn, rfl⟩ := List.mem_map.1 hx
  exact itoa_short n (hb n hn))
 have e : (itl l).length = l.length := by simp [itl]
 rw [e] at this
 omega
theorem its_size (n : Int) (h : nmOk n) : (its n).size ≤ 21 := by
 unfold its
 rw [bp_]
 exact itoa_short n h
theorem rdi_in (l : List Int) (i : Nat) (h : i < l.length) : rd l (i : Int) = l[i] := by unfold rd; exact getD_in l _ i h
theorem list_spec (l : List Int) (hl : l.length ≤ 64) (hb : ∀ x ∈ l, nmOk x) : Ev (fun k => bC_.f k l) (LT_ l) := by
 simp only [bC_.f]
 by_cases h0 : l = []
 ·subst h0
  exact Ev_t (by simp) (Ev_n rfl)
 have hn0 : l.length ≠ 0 := fun h => h0 (List.eq_nil_of_length_eq_zero h)
 refine Ev_f (by omega) ?_
 have go : ∀ (d i : Nat), i + d = l.length → Ev (fun k => bC_.l0 k l (Bs (icat (itl (l.take i)))) i) (LT_ l) := by
  intro d
  induction d with
  | zero =>
   intro i h
   refine bb_ ?_
   simp only [bC_.l0]
   refine Ev_f (by omega) (Ev_n ?_)
   unfold LT_
   rw [if_neg h0, List.take_of_length_le (by omega)]
  | succ d ih =>
   intro i h
   have hx := hb l[i] (List.getElem_mem _)
   have hx2 := hx
   unfold nmOk at hx2
   have hs := its_size l[i] hx
   have hlen := itl_len (l.take i) (by simp; omega) (fun x hx => hb x (List.mem_of_mem_take hx))
   have hd := dec_ev l[i] (by omega) (by omega)
   have e1 : itl (l.take (i + 1)) = itl (l.take i) ++ [Go.Lib.itoa l[i]] := by
    unfold itl
    rw [List.take_succ_eq_append_getElem (by omega), List.map_append]
    rfl
   refine bb_ ?_
   simp only [bC_.l0]
   rw [rdi_in l i (by omega)]
   refine Ev_t (by omega) ?_
   rw [wr64s i (by omega)]
   have nxt := ih (i + 1) (by omega)
   by_cases hi : i = 0
   rotate_left
   ·refine Ev_t (by omega) (Ev_t (by rw [bp_]; omega) (Ev_t (by omega) (Ev_b hd (Ev_t (by rw [bp_]; omega) ?_))))
    rw [e1, icat_snoc _ _ (by unfold itl; intro hc; have := congrArg List.length hc; rw [List.length_map, List.length_take, List.length_nil] at this; omega)] at nxt
    have e2 : Bs (icat (itl (l.take i))) ++ (⟨#[44]⟩ : ByteArray) ++ its l[i] = Bs (icat (itl (l.take i)) ++ 44 :: Go.Lib.itoa l[i]) := by
     unfold its
     rw [show (⟨#[44]⟩ : ByteArray) = Bs [44] from rfl, Bs_app, Bs_app, List.append_assoc, List.singleton_append]
    rw [e2]
    exact nxt
   subst hi
   refine Ev_f (by omega) (Ev_t (by omega) (Ev_b hd (Ev_t (by rw [bp_]; omega) ?_)))
   rw [e1] at nxt
   have e2 : Bs (icat (itl (l.take 0))) ++ its l[0] = Bs (icat (itl (l.take 0) ++ [Go.Lib.itoa l[0]])) := by
    unfold its
    rw [Bs_app]
    simp [itl, icat]
   rw [e2]
   exact nxt
 exact go l.length 0 (by omega)
theorem nmS (n : Int) (h0 : -1000000 ≤ n) (h1 : n ≤ 1000000) : nmOk n := by unfold nmOk; omega
theorem LT_size (l : List Int) (hl : l.length ≤ 64) (hb : ∀ x ∈ l, nmOk x) : (LT_ l).size ≤ 1408 := by
 unfold LT_
 split
 ·rw [bp_]; simp
 ·rw [bp_]; exact itl_len l hl hb
theorem vtext_ok (v : S94) (hs : v.f0.size ≤ 1000) (hv : vVen v.f0.toList v.f1 v.f2 = true) : ∃ t, Ev (fun k => bJ_.f k [v]) t ∧ t.size ≤ 1100 := by
 have hr : (0 ≤ v.f1 ∧ v.f1 ≤ 100) ∧ 0 ≤ v.f2 ∧ v.f2 ≤ 179 := by
  unfold vVen at hv
  simp only [Bool.and_eq_true, decide_eq_true_eq] at hv
  exact ⟨hv.2.1, hv.2.2.2⟩
 have r1 : bP_ [v] 0 = v := rfl
 have d1 := dec_ev v.f1 (by omega) (by omega)
 have d2 := dec_ev v.f2 (by omega) (by omega)
 have s1 := its_size v.f1 (nmS _ (by omega) (by omega))
 have s2 := its_size v.f2 (nmS _ (by omega) (by omega))
 refine ⟨((((v.f0 ++ (⟨#[32]⟩ : ByteArray)) ++ its v.f1) ++ (⟨#[32]⟩ : ByteArray)) ++ its v.f2), ?_, ?_⟩
 ·simp only [bJ_.f, r1]
  exact Ev_t (by simp) (Ev_t (by omega) (Ev_b d1 (Ev_t (by omega) (Ev_t (by omega) (Ev_b d2 (Ev_t (by omega) (Ev_n rfl)))))))
 ·have q1 : (⟨#[32]⟩ : ByteArray).size = 1 := rfl
  simp only [ByteArray.size_append]
  omega
theorem ltext_ok (x : S97) (hd : dleaf x) (hid : x.f0.size ≤ 1000) : ∃ t, Ev (fun k => bg_.f k [x]) t ∧ t.size ≤ 20000 := by
 obtain ⟨z1, _, n2, z3, vv, n4, n5, l6, hb⟩ := hd
 have r0 : am_ [x] 0 = x := rfl
 have d2 := dec_ev x.f2 (by omega) (by omega)
 have d4 := dec_ev x.f4 (by omega) (by omega)
 have d5 := dec_ev x.f5 (by omega) (by omega)
 have s2 := its_size x.f2 (nmS _ (by omega) (by omega))
 have s4 := its_size x.f4 (nmS _ (by omega) (by omega))
 have s5 := its_size x.f5 (nmS _ (by omega) (by omega))
 obtain ⟨tv, hv, sv⟩ := vtext_ok x.f3 (by omega) vv
 have q1 : (⟨#[47]⟩ : ByteArray).size = 1 := rfl
 have q2 : (⟨#[120]⟩ : ByteArray).size = 1 := rfl
 have hr : ∀ i (hi : i < x.f6.length), bQ_ x.f6 (i : Int) = x.f6[i] := fun i hi => by unfold bQ_; exact getD_in x.f6 _ i hi
 have go : ∀ (d i : Nat) (acc : ByteArray), i + d = x.f6.length → acc.size ≤ 3000 + 1500 * i → ∃ t, Ev (fun k => bg_.l0 k [x] acc i) t ∧ t.size ≤ 20000 := by
  intro d
  induction d with
  | zero =>
   intro i acc h ha
   refine ⟨acc, bb_ ?_, by omega⟩
   simp only [bg_.l0, r0]
   exact Ev_t (by simp) (Ev_f (by omega) (Ev_n rfl))
  | succ d ih =>
   intro i acc h ha
   have hi : i < x.f6.length := by omega
   have hbx := hb _ (List.getElem_mem hi)
   have hn : ∀ n ∈ [x.f6[i].f0, x.f6[i].f1, x.f6[i].f2, x.f6[i].f3], nmOk n := by
    intro n hn
    unfold dbox at hbx
    simp only [List.mem_cons, List.not_mem_nil, or_false] at hn
    rcases hn with rfl | rfl | rfl | rfl <;> exact nmS _ (by omega) (by omega)
   have t1 := list_spec [x.f6[i].f0, x.f6[i].f1, x.f6[i].f2, x.f6[i].f3] (by simp) hn
   have sz := LT_size [x.f6[i].f0, x.f6[i].f1, x.f6[i].f2, x.f6[i].f3] (by simp) hn
   obtain ⟨t, h1, h2⟩ := ih (i + 1) (acc ++ ((⟨#[47]⟩ : ByteArray) ++ LT_ [x.f6[i].f0, x.f6[i].f1, x.f6[i].f2, x.f6[i].f3])) (by omega) (by simp only [ByteArray.size_append]; omega)
   refine ⟨t, bb_ ?_, h2⟩
   simp only [bg_.l0, r0]
   rw [hr i hi, wr64s i (by omega)]
   exact Ev_t (by simp) (Ev_t (by omega) (Ev_t (by omega) (Ev_b t1 (Ev_t (by omega) (Ev_t (by omega) h1)))))
 obtain ⟨t, h1, h2⟩ := go x.f6.length 0 ((((((((((x.f0 ++ (⟨#[47]⟩ : ByteArray)) ++ x.f1) ++ (⟨#[47]⟩ : ByteArray)) ++ its x.f2) ++ (⟨#[47]⟩ : ByteArray)) ++ tv) ++ (⟨#[47]⟩ : ByteArray)) ++ its x.f4) ++ (⟨#[120]⟩ : ByteArray)) ++ its x.f5) (by omega) (by simp only [ByteArray.size_append]; omega)
 refine ⟨t, ?_, h2⟩
 simp only [bg_.f, r0]
 exact Ev_t (by simp) (Ev_t (by omega) (Ev_t (by omega) (Ev_t (by omega) (Ev_b d2 (Ev_t (by omega) (Ev_t (by omega) (Ev_b hv (Ev_t (by omega) (Ev_t (by omega) (Ev_b d4 (Ev_t (by omega) (Ev_t (by omega) (Ev_b d5 (Ev_t (by omega) h1))))))))))))))
abbrev kLeaf : ByteArray := ⟨#[108, 101, 97, 102]⟩
abbrev kNote : ByteArray := ⟨#[110, 111, 116, 101]⟩
abbrev kFace : ByteArray := ⟨#[102, 97, 99, 101]⟩
def dKind (x : ByteArray) : Prop := x = kLeaf ∨ x = kNote ∨ x = kFace
theorem j2_draw (c : List Int) (hc : u8s c) (a s : Int) (K N T : ByteArray) (h0 : 0 ≤ a) (h1 : a < 4611686018427300000) (hT : T.size ≤ 100000) : ∃ T' a' s', Ev (fun k => ap_.j2 k c a s K N T) (K, N, T', a', s') ∧ a ≤ a' ∧ a' ≤ a + 4 ∧ T'.size ≤ 100000 := by
 obtain ⟨b, a1, s1, e1, p1, q1⟩ := one_ok c hc a s 24 h0 (by omega) (by omega)
 cases b with
 | false =>
  refine ⟨T, a1, s1, bb_ ?_, by omega, by omega, hT⟩
  simp only [ap_.j2]
  exact Ev_b (Ev_c e1) (Ev_f (by simp) (Ev_n rfl))
 | true =>
  obtain ⟨n, a2, s2, e2, p2, q2, n0, n1⟩ := cA_ c hc a1 s1 3 (by omega) (by omega) (by omega)
  have hn := n1 (by omega)
  refine ⟨strOfNums (List.replicate (399 + n).toNat 0), a2, s2, bb_ ?_, by omega, by omega, by rw [strOf_size, List.length_replicate]; omega⟩
  simp only [ap_.j2]
  refine Ev_b (Ev_c e1) (Ev_t rfl (Ev_b (Ev_c e2) ?_))
  dsimp only
  rw [wr64 (x := 399 + n) (by omega) (by omega)]
  exact Ev_t (by omega) (Ev_t (by omega) (Ev_n rfl))
theorem j1_draw (c : List Int) (hc : u8s c) (a s : Int) (b : Bool) (K N T : ByteArray) (h0 : 0 ≤ a) (h1 : a < 4611686018427200000) (hN : N.size ≤ 100) (hT : T.size ≤ 100000) : ∃ T' a' s', Ev (fun k => ap_.j1 k b c a s K N T) (K, N, T', a', s') ∧ a ≤ a' ∧ a' ≤ a + 60 ∧ T'.size ≤ 100000 := by
 cases b with
 | false =>
  obtain ⟨T', a', s', h2, h3, h4, h5⟩ := j2_draw c hc a s K N T h0 (by omega) hT
  refine ⟨T', a', s', bb_ ?_, by omega, by omega, h5⟩
  simp only [ap_.j1]
  exact Ev_f (by decide) h2
 | true =>
  obtain ⟨x, a1, s1, e1, p1, q1, hid, hd⟩ := leaf_draw c hc a s N h0 (by omega)
  obtain ⟨t, ht, hs⟩ := ltext_ok x hd (by rw [hid]; omega)
  obtain ⟨T', a', s', h2, h3, h4, h5⟩ := j2_draw c hc a1 s1 K N t (by omega) (by omega) (by omega)
  refine ⟨T', a', s', bb_ ?_, by omega, by omega, h5⟩
  simp only [ap_.j1]
  exact Ev_t True.intro (Ev_b e1 (Ev_b ht h2))
theorem j0_draw (c : List Int) (hc : u8s c) (a s : Int) (K N T : ByteArray) (h0 : 0 ≤ a) (h1 : a < 4611686018427100000) (hN : N.size ≤ 100) (hT : T.size ≤ 100000) : ∃ T' a' s', Ev (fun k => ap_.j0 k c a s K N T) (K, N, T', a', s') ∧ a ≤ a' ∧ a' ≤ a + 70 ∧ T'.size ≤ 100000 := by
 by_cases hk : K.toList = ([108, 101, 97, 102] : List UInt8)
 rotate_left
 ·obtain ⟨T', a', s', h2, h3, h4, h5⟩ := j1_draw c hc a s false K N T (by omega) (by omega) hN hT
  refine ⟨T', a', s', bb_ ?_, by omega, by omega, h5⟩
  simp only [ap_.j0]
  exact Ev_f hk h2
 obtain ⟨b, a1, s1, e1, p1, q1⟩ := one_ok c hc a s 2 h0 (by omega) (by omega)
 obtain ⟨T', a', s', h2, h3, h4, h5⟩ := j1_draw c hc a1 s1 b K N T (by omega) (by omega) hN hT
 refine ⟨T', a', s', bb_ ?_, by omega, by omega, h5⟩
 simp only [ap_.j0]
 exact Ev_t hk (Ev_b (Ev_c e1) h2)
theorem block_draw (c : List Int) (hc : u8s c) (a s : Int) (h0 : 0 ≤ a) (h1 : a < 4611686018427000000) : ∃ (x : Blk) (a' s' : Int), Ev (fun k => ap_.f k c a s) (x.f0, x.f1, x.f2, a', s') ∧ a ≤ a' ∧ a' ≤ a + 100 ∧ dKind x.f0 ∧ x.f2.size ≤ 100000 := by
 obtain ⟨K, a1, s1, e1, p1, q1, hK⟩ := text_ok c hc a s [kLeaf, kNote, kFace] h0 (by omega) (by simp) (by simp)
 obtain ⟨N, a2, s2, e2, p2, q2, hN⟩ := text_ok c hc a1 s1 [(⟨#[97]⟩ : ByteArray), (⟨#[98]⟩ : ByteArray), (⟨#[99]⟩ : ByteArray), (⟨#[100]⟩ : ByteArray)] (by omega) (by omega) (by simp) (by simp)
 obtain ⟨T, a3, s3, e3, p3, q3, hT⟩ := text_ok c hc a2 s2 [(⟨#[]⟩ : ByteArray), (⟨#[120]⟩ : ByteArray), (⟨#[97, 32, 98, 32, 99]⟩ : ByteArray), (⟨#[49, 50, 32, 51, 52]⟩ : ByteArray), (⟨#[111, 97, 107, 47, 52, 48]⟩ : ByteArray)] (by omega) (by omega) (by simp) (by simp)
 obtain ⟨b, a4, s4, e4, p4, q4⟩ := one_ok c hc a3 s3 4 (by omega) (by omega) (by omega)
 have hNs : N.size ≤ 100 := by
  simp only [List.mem_cons, List.not_mem_nil, or_false] at hN
  rcases hN with rfl | rfl | rfl | rfl <;> decide
 have hTs : T.size ≤ 100 := by
  simp only [List.mem_cons, List.not_mem_nil, or_false] at hT
  rcases hT with rfl | rfl | rfl | rfl | rfl <;> decide
 have hK2 : dKind K := by simpa [dKind] using hK
 cases b with
 | false =>
  obtain ⟨T', a', s', h2, h3, h4, h5⟩ := j0_draw c hc a4 s4 K N T (by omega) (by omega) hNs (by omega)
  refine ⟨⟨K, N, T'⟩, a', s', ?_, by omega, by omega, hK2, h5⟩
  simp only [ap_.f]
  exact Ev_b (Ev_c e1) (Ev_b (Ev_c e2) (Ev_b (Ev_c e3) (Ev_b (Ev_c e4) (Ev_f (by simp) h2))))
 | true =>
  obtain ⟨wd, a5, s5, e5, p5, q5, hw⟩ := word_ok c hc a4 s4 9 (by omega) (by omega) (by omega) (by omega)
  obtain ⟨T', a', s', h2, h3, h4, h5⟩ := j0_draw c hc a5 s5 K N (T ++ wd) (by omega) (by omega) hNs (by rw [ByteArray.size_append]; omega)
  refine ⟨⟨K, N, T'⟩, a', s', ?_, by omega, by omega, hK2, h5⟩
  simp only [ap_.f]
  exact Ev_b (Ev_c e1) (Ev_b (Ev_c e2) (Ev_b (Ev_c e3) (Ev_b (Ev_c e4) (Ev_t rfl (Ev_b e5 (Ev_t (by dsimp only; omega) h2))))))
def oneV (x : Blk) : Prop := (x.f2.size : Int) ≤ 1048576 ∧ Ev (fun k => ay_.f k [x]) true
def okL (m : List Blk) : Prop := m.length ≤ 32 ∧ m.Pairwise lessB ∧ ∀ y ∈ m, oneV y
theorem okL.len {m : List Blk} (h : okL m) : (m.length : Int) ≤ 1048576 := by have := h.1; omega
theorem okL.w {m : List Blk} (h : okL m) : ∀ y ∈ m, (y.f2.size : Int) ≤ 1048576 := fun y hy => (h.2.2 y hy).1
theorem okL.ev {m : List Blk} (h : okL m) : Ev (fun k => aJ_.f k m) true := by
 obtain ⟨hl, hp, ho⟩ := h
 have go : ∀ (d i : Nat), i + d = m.length → Ev (fun k => aJ_.l0 k m i) true := by
  intro d
  induction d with
  | zero =>
   intro i hi
   refine bb_ ?_
   simp only [aJ_.l0]
   exact Ev_f (by omega) (Ev_n (decide_eq_true (by omega)))
  | succ d ih =>
   intro i hi
   have h1 := (ho _ (List.getElem_mem (show i < m.length by omega))).2
   refine bb_ ?_
   simp only [aJ_.l0]
   rw [cu_ m i (by omega), wr64s i (by omega)]
   refine Ev_t (by omega) (Ev_t (by omega) (Ev_b h1 (Ev_t rfl ?_)))
   by_cases h0 : i = 0
   rotate_left
   ·have e : wrap64 ((i : Int) - 1) = ((i - 1 : Nat) : Int) := by rw [wr64 (by omega) (by omega)]; omega
    rw [e, cu_ m (i - 1) (by omega)]
    have hc : cB (ckB (m[i - 1]'(by omega))) (ckB (m[i]'(by omega))) < 0 := (List.pairwise_iff_getElem.1 hp) (i - 1) i (by omega) (by omega) (by omega)
    refine Ev_t (by omega) (Ev_t (by omega) (Ev_t (by omega) (Ev_b (Ev_c (bfr_ev _ _)) (Ev_t (by simpa using hc) (ih (i + 1) (by omega))))))
   exact Ev_f (by omega) (ih (i + 1) (by omega))
 simp only [aJ_.f]
 exact go m.length 0 (by omega)
theorem okL.put {m : List Blk} (h : okL m) {b : Blk} (hb : oneV b) (hl : (putB m b).length ≤ 32) : okL (putB m b) := by
 refine ⟨hl, put_pw h.2.1 b, fun y hy => ?_⟩
 rcases (put_mem h.2.1 b y).1 hy with rfl | ⟨g, _⟩
 ·exact hb
 ·exact h.2.2 y g
theorem put_spec {m : List Blk} (h : okL m) (b : Blk) (hb : (b.f2.size : Int) ≤ 1048576) : ∃ r c, Ev (fun k => bo_.f k m b.f0 b.f1 b.f2) (r, c) ∧ (c = 0 → oneV b ∧ r = putB m b ∧ (putB m b).length ≤ 32) ∧ (oneV b → (putB m b).length ≤ 32 → r = putB m b ∧ c = 0) := by
 obtain ⟨vb, hvb⟩ := validB_ev b hb
 have g1 : Ev (fun k => ay_.f k [b]) vb := ⟨2000001, fun k hk => (hvb k (by omega)).1⟩
 have f1 := put_ev m h.len b (rsg_pw h.2.1 _)
 cases vb with
 | false =>
  refine ⟨[], 1, ?_, fun g => by omega, fun g => by have := Ev_one g1 g.2; cases this⟩
  simp only [bo_.f]
  refine Ev_b h.ev (Ev_t rfl (Ev_b g1 (bb_ ?_)))
  simp only [bo_.j0]
  exact Ev_t (by rfl) (Ev_n rfl)
 | true =>
  by_cases hl : ((putB m b).length : Int) > 32
  rotate_left
  ·refine ⟨putB m b, 0, ?_, fun _ => ⟨⟨hb, g1⟩, rfl, by omega⟩, fun _ _ => ⟨rfl, rfl⟩⟩
   simp only [bo_.f]
   refine Ev_b h.ev (Ev_t rfl (Ev_b g1 (bb_ ?_)))
   simp only [bo_.j0]
   exact Ev_f (by decide) (Ev_b f1 (Ev_f hl (Ev_n rfl)))
  refine ⟨[], 5, ?_, fun g => by omega, fun _ g => by omega⟩
  simp only [bo_.f]
  refine Ev_b h.ev (Ev_t rfl (Ev_b g1 (bb_ ?_)))
  simp only [bo_.j0]
  exact Ev_f (by decide) (Ev_b f1 (Ev_t hl (Ev_n rfl)))
theorem blocks_loop (c : List Int) (hc : u8s c) : ∀ (n : Nat) (a s : Int) (m : List Blk), n ≤ 10 → 0 ≤ a → a + 100 * n < 4611686018427000000 → okL m → (∀ y ∈ m, dKind y.f0) → ∃ m' a' s', Ev (fun k => bz_.l0 k m n c a s) (m', a', s') ∧ okL m' ∧ m'.length ≤ m.length + n ∧ ∀ y ∈ m', dKind y.f0
 | 0, a, s, m, _, _, _, hm, hk => ⟨m, a, s, by refine bb_ ?_; simp only [bz_.l0]; exact Ev_f (by simp) (Ev_n rfl), hm, by omega, hk⟩
 | n + 1, a, s, m, hn, h0, h1, hm, hk => by
  obtain ⟨x, a1, s1, e1, p1, q1, k1, z1⟩ := block_draw c hc a s h0 (by omega)
  obtain ⟨r, cd, e2, g1, _⟩ := put_spec hm x (by omega)
  have ew : wrap64 (((n + 1 : Nat) : Int) - 1) = (n : Int) := by rw [wr64 (by omega) (by omega)]; omega
  by_cases hcd : cd = 0
  rotate_left
  ·obtain ⟨m', a', s', h2, h3, h4, h5⟩ := blocks_loop c hc n a1 s1 m (by omega) (by omega) (by omega) hm hk
   refine ⟨m', a', s', bb_ ?_, h3, by omega, h5⟩
   simp only [bz_.l0, ew]
   exact Ev_t (by omega) (Ev_b e1 (Ev_b e2 (Ev_f hcd h2)))
  obtain ⟨ho, rfl, hl⟩ := g1 hcd
  have hp := put_len m x
  obtain ⟨m', a', s', h2, h3, h4, h5⟩ := blocks_loop c hc n a1 s1 (putB m x) (by omega) (by omega) (by omega) (hm.put ho hl) (fun y hy => by
   rcases (put_mem hm.2.1 x y).1 hy with rfl | ⟨g, _⟩
   ·exact k1
   ·exact hk y g)
  refine ⟨m', a', s', bb_ ?_, h3, by omega, h5⟩
  simp only [bz_.l0, ew]
  exact Ev_t (by omega) (Ev_b e1 (Ev_b e2 (Ev_t hcd h2)))
theorem blocks_draw (c : List Int) (hc : u8s c) : ∃ m, Ev (fun k => co_.f k c) m ∧ okL m ∧ m.length ≤ 5 ∧ ∀ y ∈ m, dKind y.f0 := by
 obtain ⟨n, a1, s1, e1, p1, q1, n0, n1⟩ := cA_ c hc 0 0 6 (by omega) (by omega) (by omega)
 have hn := n1 (by omega)
 obtain ⟨m', a', s', h2, h3, h4, h5⟩ := blocks_loop c hc n.toNat a1 s1 [] (by omega) (by omega) (by omega) ⟨by simp, List.Pairwise.nil, by simp⟩ (by simp)
 have hn2 : ((n.toNat : Nat) : Int) = n := by omega
 rw [hn2] at h2
 refine ⟨m', ?_, h3, by simp at h4; omega, h5⟩
 simp only [co_.f]
 refine Ev_b (a := (c, 0, 0)) (Ev_c rfl) (Ev_b (a := (m', a', s')) ?_ (Ev_n rfl))
 simp only [bz_.f]
 exact Ev_b (Ev_c e1) h2
end Go.Proofs.YtjebkmfljcanlaaDoor.Q
