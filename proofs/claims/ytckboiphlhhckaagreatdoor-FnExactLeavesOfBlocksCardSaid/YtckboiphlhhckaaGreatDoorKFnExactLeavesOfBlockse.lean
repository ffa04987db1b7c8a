/- The statement FnExactLeavesOfBlocks: for all lists of blocks the program and the reference give the same leaves and the same code; the lists handed over stay as they are, and the leaves are new. This text holds the functions' walks and the words for them. -/
import Derived.Test.YtckboiphlhhckaaGreatDoorKFnExactLeavesOfBlocksa
import Derived.Test.YtckboiphlhhckaaGreatDoorKFnExactLeavesOfBlocksc
import Derived.Test.YtckboiphlhhckaaGreatDoorKFnExactLeavesOfBlocksd
set_option linter.unusedVariables false
set_option linter.unusedSimpArgs false
namespace Go.Proofs.YtckboiphlhhckaaGreatDoor.Q
open Go.RowKit Go.Proofs.YtckboiphlhhckaaGreatDoorW.PrintWords Go.Proofs.YtckboiphlhhckaaGreatDoorW.PrintLast Go.Proofs.YtckboiphlhhckaaGreatDoorW.PrintMore
attribute [local go_sem] aN_ aM_ aW_ aU_ aC_ aD_ aL_ aO_
mutual
def az_.j0 : Nat → ByteArray → List ByteArray → Int → Int → Int → Bool → ByteArray → Int → Int → Option (ByteArray × ByteArray × Int × ByteArray × Int × Int × Int × Int × (List (S66)) × Bool)
 | 0, _, _, _, _, _, _, _, _, _ => none
 | k + 1, x0, x4, x5, x9, x10, x54, x114000, x114001, x114002 => if x54 = true then (some ((⟨#[]⟩ : ByteArray), (⟨#[]⟩ : ByteArray), 0, (⟨#[]⟩ : ByteArray), 0, 0, 0, 0, ([] : List (S66)), false)) else (if 0 < (x4.length : Int) then (if 1 < (x4.length : Int) then (if 5 ≤ (x4.length : Int) then ((some (x4.drop 5 : List ByteArray)).bind fun y121 => (az_.l0 k x0 x4 y121 (y121.length : Int) 0 (rdOf ByteArray.empty x4 0) (rdOf ByteArray.empty x4 1) x5 x114000 x114001 x114002 x9 x10 ([] : List (S66)))) else (none)) else (none)) else (none))
def az_.l0 : Nat → ByteArray → List ByteArray → List ByteArray → Int → Int → ByteArray → ByteArray → Int → ByteArray → Int → Int → Int → Int → List (S66) → Option (ByteArray × ByteArray × Int × ByteArray × Int × Int × Int × Int × (List (S66)) × Bool)
 | 0, _, _, _, _, _, _, _, _, _, _, _, _, _, _ => none
 | k + 1, x0, x4, x68, x69, x70, x121000, x121001, x121002, x121003, x121004, x121005, x121006, x121007, x121008 => if x70 < x69 then (if 0 ≤ x70 then (if x70 < (x68.length : Int) then ((bM_.f k (rdOf ByteArray.empty x68 x70)).bind fun bt126 => (if bt126.2.2.2.2 = true then (if x121008.length < 4398046511104 then (az_.l0 k x0 x4 x68 x69 (wrap64 (x70 + 1)) x121000 x121001 x121002 x121003 x121004 x121005 x121006 x121007 (x121008 ++ [(⟨bt126.1, bt126.2.1, bt126.2.2.1, bt126.2.2.2.1⟩ : S66)])) else (none)) else (some ((⟨#[]⟩ : ByteArray), (⟨#[]⟩ : ByteArray), 0, (⟨#[]⟩ : ByteArray), 0, 0, 0, 0, ([] : List (S66)), false)))) else (none)) else (none)) else ((aT_.f k x121000 x121001 x121002 x121003 x121004 x121005 x121006 x121007 x121008).bind fun t135 => (if t135.toList = x0.toList then (some (x121000, x121001, x121002, x121003, x121004, x121005, x121006, x121007, x121008, true)) else (some ((⟨#[]⟩ : ByteArray), (⟨#[]⟩ : ByteArray), 0, (⟨#[]⟩ : ByteArray), 0, 0, 0, 0, ([] : List (S66)), false))))
end
def az_.f (k : Nat) (a0 : ByteArray) : Option (ByteArray × ByteArray × Int × ByteArray × Int × Int × Int × Int × (List (S66)) × Bool) := (strings_Split.f a0 (⟨#[47]⟩ : ByteArray)).bind fun t102 => (if (t102.length : Int) < 5 then (some ((⟨#[]⟩ : ByteArray), (⟨#[]⟩ : ByteArray), 0, (⟨#[]⟩ : ByteArray), 0, 0, 0, 0, ([] : List (S66)), false)) else (if 2 < (t102.length : Int) then ((ak_.f k (rdOf ByteArray.empty t102 2)).bind fun bt106 => (if 3 < (t102.length : Int) then ((ch_.f k (rdOf ByteArray.empty t102 3)).bind fun bt109 => (if 4 < (t102.length : Int) then ((cp_.f k (rdOf ByteArray.empty t102 4)).bind fun bt115 => (if bt106.2 = true then (if bt109.2.2.2 = true then (az_.j0 k a0 t102 bt106.1 bt115.1 bt115.2.1 (!bt115.2.2) bt109.1 bt109.2.1 bt109.2.2.1) else (az_.j0 k a0 t102 bt106.1 bt115.1 bt115.2.1 true bt109.1 bt109.2.1 bt109.2.2.1)) else (az_.j0 k a0 t102 bt106.1 bt115.1 bt115.2.1 true bt109.1 bt109.2.1 bt109.2.2.1))) else (none))) else (none))) else (none)))
def az_.T9 : Bool × List (List Nat × List Nat) := (true, [([], []), ([0], [0]), ([1], [1]), ([], []), ([3], [3]), ([4], [4]), ([], []), ([], []), ([], []), ([], []), ([2, 5, 6, 7, 8, 9], [2, 5, 6, 7, 8, 9]), ([], []), ([11, 10, 0, 1, 2, 3, 4, 5, 6, 7, 8, 9, 10, 11], [10, 11])])
def az_.B9 : List Nat := [0, 1, 3, 0, 8, 24, 0, 0, 0, 0, 1023, 0, 4095]
theorem az_.tab9 : rtab .any (opsOf Tryz.f18 9) = az_.T9 := by kernel_rfl
theorem az_.bits9 : cC_ az_.T9.2 az_.B9 = true := by kernel_rfl
set_option maxHeartbeats 8000000 in
set_option maxRecDepth 100000 in
theorem az_.calls (k : Nat) (a0 : ByteArray) (r1 : ByteArray) (r2 : ByteArray) (r3 : Int) (r4 : ByteArray) (r5 : Int) (r6 : Int) (r7 : Int) (r8 : Int) (r9 : List (S66)) (r10 : Bool) (w : World) (hTab_ : Tab_ w) (h : az_.f k a0 = some (r1, r2, r3, r4, r5, r6, r7, r8, r9, r10)) :
  Calls Tryz.prog 18 #[.string a0] w fun e w' => ∃ v8_ : Value, e = .returned (.tuple #[.agg #[.string r1, .string r2, .int .i64 r3, .string r4, .int .i64 r5, .int .i64 r6, .int .i64 r7, .int .i64 r8, v8_], .bool r10]) ∧ Kd.R k66 66 w' w.heap.size (fun _ => True) v8_ r9 ∧ Below w.heap.size w w' := by
 have hu43 := Tryz.underlying43
 have hu40 := Tryz.underlying40
 have hu66 := Tryz.underlying66
 have HTab_ := Aside0.mk hTab_
 clear hTab_
 have HB := Aside0.mk (Below.refl w.heap.size w)
 have H : ((strings_Split.f a0 (⟨#[47]⟩ : ByteArray)).bind fun t102 => (if (t102.length : Int) < 5 then (some ((⟨#[]⟩ : ByteArray), (⟨#[]⟩ : ByteArray), 0, (⟨#[]⟩ : ByteArray), 0, 0, 0, 0, ([] : List (S66)), false)) else (if 2 < (t102.length : Int) then ((ak_.f k (rdOf ByteArray.empty t102 2)).bind fun bt106 => (if 3 < (t102.length : Int) then ((ch_.f k (rdOf ByteArray.empty t102 3)).bind fun bt109 => (if 4 < (t102.length : Int) then ((cp_.f k (rdOf ByteArray.empty t102 4)).bind fun bt115 => (if bt106.2 = true then (if bt109.2.2.2 = true then (az_.j0 k a0 t102 bt106.1 bt115.1 bt115.2.1 (!bt115.2.2) bt109.1 bt109.2.1 bt109.2.2.1) else (az_.j0 k a0 t102 bt106.1 bt115.1 bt115.2.1 true bt109.1 bt109.2.1 bt109.2.2.1)) else (az_.j0 k a0 t102 bt106.1 bt115.1 bt115.2.1 true bt109.1 bt109.2.1 bt109.2.2.1))) else (none))) else (none))) else (none)))) = some (r1, r2, r3, r4, r5, r6, r7, r8, r9, r10) := h
 clear h
 replace H := Option.bind_eq_some_iff.mp H
 obtain ⟨t102, A20, H⟩ := H
 (try dsimp only at H)
 have A2 := Aside0.mk A20
 clear A20
 have HC3 := Aside0.mk H
 clear H
 go_enter Tryz.func18, Tryz.ntmps18
 go_upto_if 21 with (first | ((with_reducible refine aI_ (N := 2) rfl ?_); refine aR_ ?hg (N := 2) ?hd (cs := #[.string (⟨#[]⟩ : ByteArray), .string (⟨#[]⟩ : ByteArray), .int .i64 0, .string (⟨#[]⟩ : ByteArray), .int .i64 0, .int .i64 0, .int .i64 0, .int .i64 0, .slice none 0 0]) (t := 43) ?hr ?_; (case hd => rfl); (case hg => rfl); (case hr => (go_simp; try rfl)); intro gb101 hg w4 hbox hb; have BK101 := Aside0.mk (hbox); have GW101 := Aside0.mk ((by rw [hg]; exact (ad_ (bz HB.out)) : w.heap.size ≤ gb101)); have GE101 := Aside0.mk ((by rw [hg]; exact (ad_ (bz HB.out)) : w.heap.size ≤ gb101)); replace HB := Aside0.mk (ac_ (bz HB.out) hb); clear hb hbox hg) | ((with_reducible refine af_ (f := 34) rfl ?_); refine aJ_ (some 18) rfl rfl Tryz.func34 (by kernel_rfl) rfl #[.string a0, .string (⟨#[47]⟩ : ByteArray)] rfl (by first | rfl | (simp only [lma_, lmc_, lmn_]; first | done | rfl)) ?_; (with_reducible refine (strings_Split.calls a0 (⟨#[47]⟩ : ByteArray) t102 _ ?side1 A2.out).mono ?_); (case side1 => exact bc_ HTab_.out (by repeat (first | (with_reducible first | exact HB.out | apply bA_ | apply bN_ | apply bD_ | refine aa_ ?_ GE101.out)))); rintro e w5 ⟨v103, rfl, ho0, hb⟩; refine ⟨_, rfl, ?_⟩; have HO104 := Aside0.mk (Kd.bz_ ho0 (ad_ (by repeat (first | (with_reducible first | exact HB.out | apply bA_ | apply bN_ | apply bD_ | refine aa_ ?_ GE101.out))))); replace BK101 := Aside0.mk (an_ (kz BK101.out) hb); replace HB := Aside0.mk (ac_ (by repeat (first | (with_reducible first | exact HB.out | apply bA_ | apply bN_ | apply bD_ | refine aa_ ?_ GE101.out))) hb); (try clear hb); (try clear ho0); obtain ⟨Ao6, co6, eo6⟩ := Kd.bv_ HO104.out; subst eo6))
 (try simp only [Act.put, lsa_, ls0_, ls1_])
 have H := HC3.out
 clear HC3
 by_cases c7 : (t102.length : Int) < 5
 rotate_left
 ·rw [if_neg c7] at H
  have c7b0 : decide ((t102.length : Int) < 5) = false := decide_eq_false c7
  have c7b1 : decide (t102.length < 5) = false := decide_eq_false (by omega)
  clear c7
  (first | rw [c7b0] | (simp only [i64_w, i32_w]; rw [c7b0]) | (simp only [c7b1, Bool.not_true, Bool.not_false]) | (simp only [c7b0, Bool.not_true, Bool.not_false]) | skip)
  by_cases c9 : 2 < (t102.length : Int)
  rotate_left
  ·rw [if_neg c9] at H
   exact absurd H (by simp)
  rw [if_pos c9] at H
  have c9b0 : decide (2 < (t102.length : Int)) = true := decide_eq_true c9
  have c9b1 : decide (2 < t102.length) = true := decide_eq_true (by omega)
  clear c9
  replace H := Option.bind_eq_some_iff.mp H
  obtain ⟨⟨t106, t107⟩, A100, H⟩ := H
  (try dsimp only at H)
  have A10 := Aside0.mk A100
  clear A100
  by_cases c11 : 3 < (t102.length : Int)
  rotate_left
  ·rw [if_neg c11] at H
   exact absurd H (by simp)
  rw [if_pos c11] at H
  have c11b0 : decide (3 < (t102.length : Int)) = true := decide_eq_true c11
  have c11b1 : decide (3 < t102.length) = true := decide_eq_true (by omega)
  clear c11
  replace H := Option.bind_eq_some_iff.mp H
  obtain ⟨⟨t109, t110, t111, t112⟩, A120, H⟩ := H
  (try dsimp only at H)
  have A12 := Aside0.mk A120
  clear A120
  by_cases c13 : 4 < (t102.length : Int)
  rotate_left
  ·rw [if_neg c13] at H
   exact absurd H (by simp)
  rw [if_pos c13] at H
  have c13b0 : decide (4 < (t102.length : Int)) = true := decide_eq_true c13
  have c13b1 : decide (4 < t102.length) = true := decide_eq_true (by omega)
  clear c13
  replace H := Option.bind_eq_some_iff.mp H
  obtain ⟨⟨t115, t116, t117⟩, A140, H⟩ := H
  (try dsimp only at H)
  have A14 := Aside0.mk A140
  clear A140
  have HC15 := Aside0.mk H
  clear H
  have p105 : 0 ≤ (2 : Int) := (by omega)
  have q105 : 2 < (t102.length : Int) := of_decide_eq_true (by assumption)
  obtain ⟨ad105, e105, hx105_0⟩ := Kd.bf_ (Kd.av_ HO104.out).2.2 2 p105 q105
  cases e105
  (try simp only [show (2 : Int).toNat = 2 from rfl, Nat.reduceMul, Nat.reduceEqDiff, Go.Addr.add, ↓reduceIte] at hx105_0)
  have qi105 : (2 < t102.length) = True := eq_true (by omega)
  (try rw [show ((2 : Int)).toNat = 2 from rfl] at hx105_0)
  replace p105 := eq_true p105
  replace q105 := eq_true q105
  go_upto_region 7 with (first | ((with_reducible refine af_ (f := 35) rfl ?_); refine aJ_ (some 27) rfl rfl Tryz.func35 (by kernel_rfl) rfl #[.string (rdOf ByteArray.empty t102 2)] rfl (by first | rfl | (simp only [lma_, lmc_, lmn_]; first | done | rfl)) ?_; (with_reducible refine (ak_.calls k (rdOf ByteArray.empty t102 2) t106 t107 _ ?side1 A10.out).mono ?_); (case side1 => exact bc_ HTab_.out (by repeat (first | (with_reducible first | exact HB.out | apply bA_ | apply bN_ | apply bD_ | refine aa_ ?_ GE101.out)))); rintro e w16 ⟨rfl, hb⟩; refine ⟨_, rfl, ?_⟩; replace HO104 := Aside0.mk (Kd.aV_ (rz HO104.out) hb); replace BK101 := Aside0.mk (an_ (kz BK101.out) hb); replace HB := Aside0.mk (ac_ (by repeat (first | (with_reducible first | exact HB.out | apply bA_ | apply bN_ | apply bD_ | refine aa_ ?_ GE101.out))) hb); (try clear hb); have p108 : 0 ≤ (3 : Int) := (by omega); have q108 : 3 < (t102.length : Int) := of_decide_eq_true (by assumption); obtain ⟨ad108, e108, hx108_0⟩ := Kd.bf_ (Kd.av_ HO104.out).2.2 3 p108 q108; obtain rfl : ad105 = ad108 := (by injection e108); (try simp only [show (3 : Int).toNat = 3 from rfl, Nat.reduceMul, Nat.reduceEqDiff, Go.Addr.add, ↓reduceIte] at hx108_0); have qi108 : (3 < t102.length) = True := eq_true (by omega); (try rw [show ((3 : Int)).toNat = 3 from rfl] at hx108_0); replace p108 := eq_true p108; replace q108 := eq_true q108) | ((with_reducible refine af_ (f := 36) rfl ?_); refine aJ_ (some 34) rfl rfl Tryz.func36 (by kernel_rfl) rfl #[.string (rdOf ByteArray.empty t102 3)] rfl (by first | rfl | (simp only [lma_, lmc_, lmn_]; first | done | rfl)) ?_; (with_reducible refine (ch_.calls k (rdOf ByteArray.empty t102 3) t109 t110 t111 t112 _ ?side1 A12.out).mono ?_); (case side1 => exact bc_ HTab_.out (by repeat (first | (with_reducible first | exact HB.out | apply bA_ | apply bN_ | apply bD_ | refine aa_ ?_ GE101.out)))); rintro e w17 ⟨rfl, hb⟩; refine ⟨_, rfl, ?_⟩; replace HO104 := Aside0.mk (Kd.aV_ (rz HO104.out) hb); replace BK101 := Aside0.mk (an_ (kz BK101.out) hb); replace HB := Aside0.mk (ac_ (by repeat (first | (with_reducible first | exact HB.out | apply bA_ | apply bN_ | apply bD_ | refine aa_ ?_ GE101.out))) hb); (try clear hb)) | ((with_reducible refine aI_ (N := 7) rfl ?_); refine aR_ ?hg (N := 7) ?hd (cs := #[.string (⟨#[]⟩ : ByteArray), .int .i64 0, .int .i64 0]) (t := 40) ?hr ?_; (case hd => rfl); (case hg => rfl); (case hr => (go_simp; try rfl)); intro gb113 hg w18 hbox hb; replace HO104 := Aside0.mk (Kd.aV_ (rz HO104.out) hb); have BK113 := Aside0.mk (hbox); have GW113 := Aside0.mk ((by rw [hg]; exact (ad_ (by repeat (first | (with_reducible first | exact HB.out | apply bA_ | apply bN_ | apply bD_ | refine aa_ ?_ GE101.out)))) : w.heap.size ≤ gb113)); have GE113 := Aside0.mk ((by rw [hg]; exact (ad_ (by repeat (first | (with_reducible first | exact HB.out | apply bA_ | apply bN_ | apply bD_ | refine aa_ ?_ GE101.out)))) : w.heap.size ≤ gb113)); replace HB := Aside0.mk (ac_ (by repeat (first | (with_reducible first | exact HB.out | apply bA_ | apply bN_ | apply bD_ | refine aa_ ?_ GE101.out))) hb); have NB101_113 := Aside0.mk ((by rw [hg]; exact Nat.ne_of_lt (bF_ (kz BK101.out)) : gb101 ≠ gb113)); have NB113_101 := Aside0.mk ((by rw [hg]; exact Nat.ne_of_gt (bF_ (kz BK101.out)) : gb113 ≠ gb101)); replace BK101 := Aside0.mk (an_ (kz BK101.out) hb); clear hb hbox hg; have hnb19 := NB113_101.out; have hnc19 := NB101_113.out; obtain ⟨hcz20_0, hcz20_1, hcz20_2⟩ := cz3_ BK113.out; obtain ⟨hfz20_0, hfz20_1, hfz20_2⟩ := fz3_ BK113.out; have p114 : 0 ≤ (4 : Int) := (by omega); have q114 : 4 < (t102.length : Int) := of_decide_eq_true (by assumption); obtain ⟨ad114, e114, hx114_0⟩ := Kd.bf_ (Kd.av_ HO104.out).2.2 4 p114 q114; obtain rfl : ad105 = ad114 := (by injection e114); (try simp only [show (4 : Int).toNat = 4 from rfl, Nat.reduceMul, Nat.reduceEqDiff, Go.Addr.add, ↓reduceIte] at hx114_0); have qi114 : (4 < t102.length) = True := eq_true (by omega); (try rw [show ((4 : Int)).toNat = 4 from rfl] at hx114_0); have hn114_0 : ad105.block ≠ gb113 := Kd.aE_ (Kd.R_ne HO104.out BK113.out (by decide)); have hn114_1 : ad105.block ≠ gb113 := Kd.aE_ (Kd.R_ne HO104.out BK113.out (by decide)); have hn114_2 : ad105.block ≠ gb113 := Kd.aE_ (Kd.R_ne HO104.out BK113.out (by decide)); replace hx114_0 := (cell_far (p := ⟨gb113, 0, none⟩) (by first | (rw [add_block]; exact hn114_0) | (show (Addr.add _ _).block ≠ _; rw [add_block]; exact hn114_0) | exact hn114_0) (.string t109)).trans hx114_0; replace hx114_0 := (cell_far (p := ⟨gb113, 1, none⟩) (by first | (rw [add_block]; exact hn114_1) | (show (Addr.add _ _).block ≠ _; rw [add_block]; exact hn114_1) | exact hn114_1) (.int .i64 t110)).trans hx114_0; replace hx114_0 := (cell_far (p := ⟨gb113, 2, none⟩) (by first | (rw [add_block]; exact hn114_2) | (show (Addr.add _ _).block ≠ _; rw [add_block]; exact hn114_2) | exact hn114_2) (.int .i64 t111)).trans hx114_0; clear hn114_0; clear hn114_1; clear hn114_2; replace p114 := eq_true p114; replace q114 := eq_true q114) | ((with_reducible refine af_ (f := 37) rfl ?_); refine aJ_ (some 41) rfl rfl Tryz.func37 (by kernel_rfl) rfl #[.string (rdOf ByteArray.empty t102 4)] rfl (by first | rfl | (simp only [lma_, lmc_, lmn_]; first | done | rfl)) ?_; (with_reducible refine (cp_.calls k (rdOf ByteArray.empty t102 4) t115 t116 t117 _ ?side1 A14.out).mono ?_); (case side1 => exact bc_ HTab_.out (by repeat (first | (with_reducible first | exact HB.out | apply bA_ | apply bN_ | apply bD_ | refine aa_ ?_ GE101.out | refine aa_ ?_ GE113.out)))); rintro e w21 ⟨rfl, hb⟩; refine ⟨_, rfl, ?_⟩; replace HO104 := Aside0.mk (Kd.aV_ (rz (Kd.bg_ (Kd.R_far (p := ⟨gb113, 2, none⟩) (Kd.R_far (p := ⟨gb113, 1, none⟩) (Kd.R_far (p := ⟨gb113, 0, none⟩) (Kd.bW_ HO104.out BK113.out (by decide)) (fun _ hk => hk.2) (.string t109)) (fun _ hk => hk.2) (.int .i64 t110)) (fun _ hk => hk.2) (.int .i64 t111)) (fun _ h_ => h_.1))) hb); replace BK101 := Aside0.mk (an_ (g := gb101) (o := .cells #[.string (⟨#[]⟩ : ByteArray), .string (⟨#[]⟩ : ByteArray), .int .i64 0, .string (⟨#[]⟩ : ByteArray), .int .i64 0, .int .i64 0, .int .i64 0, .int .i64 0, .slice none 0 0] 43 (0, 0)) (by exact kf (kf (kf (kz BK101.out) NB101_113.out) NB101_113.out) NB101_113.out) hb); replace BK113 := Aside0.mk (an_ (g := gb113) (o := .cells #[.string t109, .int .i64 t110, .int .i64 t111] 40 (0, 0)) (by exact kj3_2 (kj3_1 (kj3_0 (kz BK113.out)))) hb); replace HB := Aside0.mk (ac_ (by repeat (first | (with_reducible first | exact HB.out | apply bA_ | apply bN_ | apply bD_ | refine aa_ ?_ GE101.out | refine aa_ ?_ GE113.out))) hb); (try clear hb)))
  (try simp only [Act.put, lsa_, ls0_, ls1_])
  go_cut [54] (fun v54 wc => ∃ (kq : Nat) (x54_14 : Bool), v54 = .bool x54_14 ∧ Aside0 (az_.j0 kq a0 t102 t106 t115 t116 x54_14 t109 t110 t111 = some (r1, r2, r3, r4, r5, r6, r7, r8, r9, r10)) ∧ Aside0 (kq ≤ k) ∧ Aside0 (Kd.R Kd.string 9 wc w.heap.size (fun _ => True) (.slice (some ad105) t102.length co6) t102) ∧ Aside0 (wc.heap[gb101]? = some (.cells #[.string (⟨#[]⟩ : ByteArray), .string (⟨#[]⟩ : ByteArray), .int .i64 0, .string (⟨#[]⟩ : ByteArray), .int .i64 0, .int .i64 0, .int .i64 0, .int .i64 0, (.slice none 0 0)] 43 (0, 0))) ∧ Aside0 (wc.heap[gb113]? = some (.cells #[.string t109, .int .i64 t110, .int .i64 t111] 40 (0, 0))) ∧ Aside0 (Below w.heap.size w wc))
  case first =>
   have H := HC15.out
   clear HC15
   by_cases c22 : t107 = true
   rotate_left
   ·replace c22 := Bool.eq_false_iff.mpr c22
    subst c22
    have H1 : (az_.j0 k a0 t102 t106 t115 t116 true t109 t110 t111) = some (r1, r2, r3, r4, r5, r6, r7, r8, r9, r10) := by rw [if_neg (show ¬ (false = true) by decide)] at H; exact H
    clear H
    have H := H1
    clear H1
    have H' := Aside0.mk H
    clear H
    go_wp2
    go_meet
    case rel => exact ⟨_, (true), (by first | rfl | (simp; done) | (simp [*]; done)), H', ⟨by first | omega | exact Nat.le_refl _⟩, ⟨rz HO104.out⟩, ⟨by (with_reducible repeat (first | refine cd_ ?_ _ | refine bH_ ?_ | refine bE_ ?_ _)); exact BK101.out⟩, ⟨by (with_reducible repeat (first | refine cd_ ?_ _ | refine bH_ ?_ | refine bE_ ?_ _)); exact BK113.out⟩, ⟨by repeat (first | (with_reducible first | exact HB.out | apply bA_ | apply bN_ | apply bD_ | refine aa_ ?_ GE101.out | refine aa_ ?_ GE113.out))⟩⟩
   subst c22
   have H1 : (if t112 = true then (az_.j0 k a0 t102 t106 t115 t116 (!t117) t109 t110 t111) else (az_.j0 k a0 t102 t106 t115 t116 true t109 t110 t111)) = some (r1, r2, r3, r4, r5, r6, r7, r8, r9, r10) := by rw [if_pos rfl] at H; exact H
   clear H
   have H := H1
   clear H1
   by_cases c23 : t112 = true
   rotate_left
   ·replace c23 := Bool.eq_false_iff.mpr c23
    subst c23
    have H1 : (az_.j0 k a0 t102 t106 t115 t116 true t109 t110 t111) = some (r1, r2, r3, r4, r5, r6, r7, r8, r9, r10) := by rw [if_neg (show ¬ (false = true) by decide)] at H; exact H
    clear H
    have H := H1
    clear H1
    have H' := Aside0.mk H
    clear H
    go_wp2
    go_meet
    case rel => exact ⟨_, (true), (by first | rfl | (simp; done) | (simp [*]; done)), H', ⟨by first | omega | exact Nat.le_refl _⟩, ⟨rz HO104.out⟩, ⟨by (with_reducible repeat (first | refine cd_ ?_ _ | refine bH_ ?_ | refine bE_ ?_ _)); exact BK101.out⟩, ⟨by (with_reducible repeat (first | refine cd_ ?_ _ | refine bH_ ?_ | refine bE_ ?_ _)); exact BK113.out⟩, ⟨by repeat (first | (with_reducible first | exact HB.out | apply bA_ | apply bN_ | apply bD_ | refine aa_ ?_ GE101.out | refine aa_ ?_ GE113.out))⟩⟩
   subst c23
   have H1 : (az_.j0 k a0 t102 t106 t115 t116 (!t117) t109 t110 t111) = some (r1, r2, r3, r4, r5, r6, r7, r8, r9, r10) := by rw [if_pos rfl] at H; exact H
   clear H
   have H := H1
   clear H1
   have H' := Aside0.mk H
   clear H
   go_wp2
   go_meet
   case rel => exact ⟨_, (!t117), (by first | rfl | (simp; done) | (simp [*]; done)), H', ⟨by first | omega | exact Nat.le_refl _⟩, ⟨rz HO104.out⟩, ⟨by (with_reducible repeat (first | refine cd_ ?_ _ | refine bH_ ?_ | refine bE_ ?_ _)); exact BK101.out⟩, ⟨by (with_reducible repeat (first | refine cd_ ?_ _ | refine bH_ ?_ | refine bE_ ?_ _)); exact BK113.out⟩, ⟨by repeat (first | (with_reducible first | exact HB.out | apply bA_ | apply bN_ | apply bD_ | refine aa_ ?_ GE101.out | refine aa_ ?_ GE113.out))⟩⟩
  case rest =>
   clear HC15
   obtain ⟨kq, x54_14, rfl, HA, HJ14, HO_4, BK101, BK113, HB⟩ := hcut
   cases kq with
   | zero => exact absurd HA.out (by simp [az_.j0])
   | succ kj14 =>
    have H := HA.out
    clear HA
    simp only [az_.j0] at H
    by_cases c24 : x54_14 = true
    rotate_left
    ·replace c24 := Bool.eq_false_iff.mpr c24
     subst c24
     have H1 : (if 0 < (t102.length : Int) then (if 1 < (t102.length : Int) then (if 5 ≤ (t102.length : Int) then ((some (t102.drop 5 : List ByteArray)).bind fun y121 => (az_.l0 kj14 a0 t102 y121 (y121.length : Int) 0 (rdOf ByteArray.empty t102 0) (rdOf ByteArray.empty t102 1) t106 t109 t110 t111 t115 t116 ([] : List (S66)))) else (none)) else (none)) else (none)) = some (r1, r2, r3, r4, r5, r6, r7, r8, r9, r10) := by rw [if_neg (show ¬ (false = true) by decide)] at H; exact H
     clear H
     have H := H1
     clear H1
     by_cases c27 : 0 < (t102.length : Int)
     rotate_left
     ·rw [if_neg c27] at H
      exact absurd H (by simp)
     rw [if_pos c27] at H
     have c27b0 : decide (0 < (t102.length : Int)) = true := decide_eq_true c27
     have c27b1 : decide (0 < t102.length) = true := decide_eq_true (by omega)
     clear c27
     by_cases c28 : 1 < (t102.length : Int)
     rotate_left
     ·rw [if_neg c28] at H
      exact absurd H (by simp)
     rw [if_pos c28] at H
     have c28b0 : decide (1 < (t102.length : Int)) = true := decide_eq_true c28
     have c28b1 : decide (1 < t102.length) = true := decide_eq_true (by omega)
     clear c28
     by_cases c29 : 5 ≤ (t102.length : Int)
     rotate_left
     ·rw [if_neg c29] at H
      exact absurd H (by simp)
     rw [if_pos c29] at H
     have c29b0 := eq_true c29
     have c29b1 : decide (5 ≤ (t102.length : Int)) = true := decide_eq_true c29
     clear c29
     obtain ⟨y121, hy121⟩ : ∃ y_ : List ByteArray, y_ = (t102.drop 5) := ⟨_, rfl⟩
     replace H : (az_.l0 kj14 a0 t102 y121 (y121.length : Int) 0 (rdOf ByteArray.empty t102 0) (rdOf ByteArray.empty t102 1) t106 t109 t110 t111 t115 t116 ([] : List (S66))) = some (r1, r2, r3, r4, r5, r6, r7, r8, r9, r10) := by first | (rw [hy121]; with_reducible exact H) | (have H2_ := (Option.bind_some _ _).symm.trans H; rw [hy121]; with_reducible exact H2_) | (have H2_ := (Option.bind_some _ _).symm.trans H; with_reducible exact H2_) | with_reducible exact H | (rw [hy121]; exact H) | exact H
     have Ny121 := Aside0.mk hy121
     clear hy121
     have H' := Aside0.mk H
     clear H
     try go_wp2
     (try (rw [bm_ wc]; generalize hq_ : World.drewN wc _ = wc; replace HO_4 := Aside0.mk (rqR hq_ HO_4.out); replace BK101 := Aside0.mk (rqB hq_ BK101.out); replace BK113 := Aside0.mk (rqB hq_ BK113.out); replace HB := Aside0.mk (rqH hq_ HB.out); clear hq_))
     have n0_ := Aside0.mk (Kd.R_drew HO_4.out)
     have n1_ := Aside0.mk (bH_ BK101.out)
     have n2_ := Aside0.mk (bH_ BK113.out)
     have n3_ := Aside0.mk (bD_ HB.out)
     clear HO_4
     clear BK101
     clear BK113
     clear HB
     have HO_4 := n0_
     have BK101 := n1_
     have BK113 := n2_
     have HB := n3_
     clear n0_ n1_ n2_ n3_
     have p118 : 0 ≤ (0 : Int) := (by omega)
     have q118 : 0 < (t102.length : Int) := of_decide_eq_true (by assumption)
     obtain ⟨ad118, e118, hx118_0⟩ := Kd.bf_ (Kd.av_ HO_4.out).2.2 0 p118 q118
     obtain rfl : ad105 = ad118 := (by injection e118)
     have qi118 : (0 < t102.length) = True := eq_true (by omega)
     (try rw [show ((0 : Int)).toNat = 0 from rfl] at hx118_0)
     (try rw [Addr.add_zero'] at hx118_0)
     replace p118 := eq_true p118
     replace q118 := eq_true q118
     have p119 : 0 ≤ (1 : Int) := (by omega)
     have q119 : 1 < (t102.length : Int) := of_decide_eq_true (by assumption)
     obtain ⟨ad119, e119, hx119_0⟩ := Kd.bf_ (Kd.av_ HO_4.out).2.2 1 p119 q119
     obtain rfl : ad105 = ad119 := (by injection e119)
     (try simp only [show (1 : Int).toNat = 1 from rfl, Nat.reduceMul, Nat.reduceEqDiff, Go.Addr.add, ↓reduceIte] at hx119_0)
     have qi119 : (1 < t102.length) = True := eq_true (by omega)
     (try rw [show ((1 : Int)).toNat = 1 from rfl] at hx119_0)
     replace p119 := eq_true p119
     replace q119 := eq_true q119
     refine start_ (n := 13) (S := fun w' => w'.cell? ⟨gb113, 0, none⟩ = some (.string t109) ∧ w'.cell? ⟨gb113, 1, none⟩ = some (.int .i64 t110) ∧ w'.cell? ⟨gb113, 2, none⟩ = some (.int .i64 t111) ∧ w'.cell? ad105 = some (.string (rdOf ByteArray.empty t102 0)) ∧ w'.cell? ⟨ad105.block, ad105.off + 1, none⟩ = some (.string (rdOf ByteArray.empty t102 1))) (ds := []) #[f_,f_,f_,f_,f_,f_,f_,f_,f_,f_,f_,f_,f_] (by kernel_rfl) rfl rfl ⟨(am_ BK113.out 0).trans rfl, (am_ BK113.out 1).trans rfl, (am_ BK113.out 2).trans rfl, hx118_0, hx119_0⟩ (fun hHeld => ?_); refine cl_ az_.tab9 az_.bits9 (fun HT_ HW_ => ?_)
     generalize wc.drew = w30 at HO_4 BK101 BK113 HB hx118_0 hx119_0 hHeld ⊢
     refine pure_ (i := 0) (N := some 56) (v := ?_) (a' := ?_) #[t_,f_,f_,f_,f_,f_,f_,f_,f_,f_,f_,f_,f_] rfl rfl (aH_ HT_.out (by kernel_rfl)) (fun _ _ _ h => h) (Or.inl ⟨by rfl, ?_⟩) ?_ ?_
     rotate_left
     ·intro w'
      go_simp
      with_reducible rfl
     rotate_left
     ·simp only [Act.put, lsa_, ls0_, ls1_, i64_w, i32_w]
      rfl
     refine pure_ (i := 1) (N := some 57) (v := ?_) (a' := ?_) #[t_,t_,f_,f_,f_,f_,f_,f_,f_,f_,f_,f_,f_] rfl rfl (aH_ HT_.out (by kernel_rfl)) (fun _ _ _ h => h) (Or.inl ⟨by rfl, ?_⟩) ?_ ?_
     rotate_left
     ·intro w'
      go_simp
      with_reducible rfl
     rotate_left
     ·simp only [Act.put, lsa_, ls0_, ls1_, i64_w, i32_w]
      rfl
     refine pure_ (i := 3) (N := some 59) (v := ?_) (a' := ?_) #[t_,t_,f_,t_,f_,f_,f_,f_,f_,f_,f_,f_,f_] rfl rfl (aH_ HT_.out (by kernel_rfl)) (fun _ _ _ h => h) (Or.inl ⟨by rfl, ?_⟩) ?_ ?_
     rotate_left
     ·intro w'
      go_simp
      with_reducible rfl
     rotate_left
     ·simp only [Act.put, lsa_, ls0_, ls1_, i64_w, i32_w]
      rfl
     refine pure_ (i := 4) (N := some 60) (v := ?_) (a' := ?_) #[t_,t_,f_,t_,t_,f_,f_,f_,f_,f_,f_,f_,f_] rfl rfl (aH_ HT_.out (by kernel_rfl)) (fun _ _ _ h => h) (Or.inl ⟨by rfl, ?_⟩) ?_ ?_
     rotate_left
     ·intro w'
      go_simp
      with_reducible rfl
     rotate_left
     ·simp only [Act.put, lsa_, ls0_, ls1_, i64_w, i32_w]
      rfl
     refine pure_ (i := 6) (N := some 62) (v := ?_) (a' := ?_) #[t_,t_,f_,t_,t_,f_,t_,f_,f_,f_,f_,f_,f_] rfl rfl (aH_ HT_.out (by kernel_rfl)) (fun _ _ _ h => h) (Or.inl ⟨by rfl, ?_⟩) ?_ ?_
     rotate_left
     ·intro w'
      go_simp
      with_reducible rfl
     rotate_left
     ·simp only [Act.put, lsa_, ls0_, ls1_, i64_w, i32_w]
      rfl
     refine pure_ (i := 8) (N := some 64) (v := ?_) (a' := ?_) #[t_,t_,f_,t_,t_,f_,t_,f_,t_,f_,f_,f_,f_] rfl rfl (aH_ HT_.out (by kernel_rfl)) (fun _ _ _ h => h) (Or.inl ⟨by rfl, ?_⟩) ?_ ?_
     rotate_left
     ·intro w'
      go_simp
      with_reducible rfl
     rotate_left
     ·simp only [Act.put, lsa_, ls0_, ls1_, i64_w, i32_w]
      rfl
     refine pure_ (i := 9) (N := some 65) (v := ?_) (a' := ?_) #[t_,t_,f_,t_,t_,f_,t_,f_,t_,t_,f_,f_,f_] rfl rfl (aH_ HT_.out (by kernel_rfl)) (fun _ _ _ h => h) (Or.inl ⟨by rfl, ?_⟩) ?_ ?_
     rotate_left
     ·intro w'
      go_simp
      with_reducible rfl
     rotate_left
     ·simp only [Act.put, lsa_, ls0_, ls1_, i64_w, i32_w]
      rfl
     refine take_ (i := 2) (N := some 58) (v := ?_) (a' := ?_) #[t_,t_,t_,t_,t_,f_,t_,f_,t_,t_,f_,f_,f_] rfl rfl (bt_ HT_.out HW_.out (by kernel_rfl)) (fun _ _ _ h => h) (Or.inl ⟨by rfl, ?_⟩) hHeld ?_ ?_
     rotate_left
     ·rintro w' ⟨s0, s1, s2, s3, s4⟩
      go_simp
      with_reducible rfl
     rotate_left
     ·simp only [Act.put, lsa_, ls0_, ls1_, i64_w, i32_w]
      rfl
     refine take_ (i := 5) (N := some 61) (v := ?_) (a' := ?_) #[t_,t_,t_,t_,t_,t_,t_,f_,t_,t_,f_,f_,f_] rfl rfl (bt_ HT_.out HW_.out (by kernel_rfl)) (fun _ _ _ h => h) (Or.inl ⟨by rfl, ?_⟩) hHeld ?_ ?_
     rotate_left
     ·rintro w' ⟨s0, s1, s2, s3, s4⟩
      go_simp
      with_reducible rfl
     rotate_left
     ·simp only [Act.put, lsa_, ls0_, ls1_, i64_w, i32_w]
      rfl
     refine take_ (i := 7) (N := some 63) (v := ?_) (a' := ?_) #[t_,t_,t_,t_,t_,t_,t_,t_,t_,t_,f_,f_,f_] rfl rfl (bt_ HT_.out HW_.out (by kernel_rfl)) (fun _ _ _ h => h) (Or.inl ⟨by rfl, ?_⟩) hHeld ?_ ?_
     rotate_left
     ·rintro w' ⟨s0, s1, s2, s3, s4⟩
      go_simp
      with_reducible rfl
     rotate_left
     ·simp only [Act.put, lsa_, ls0_, ls1_, i64_w, i32_w]
      rfl
     refine pure_ (i := 10) (N := some 66) (v := ?_) (a' := ?_) #[t_,t_,t_,t_,t_,t_,t_,t_,t_,t_,t_,f_,f_] rfl rfl (aH_ HT_.out (by kernel_rfl)) (fun _ _ _ h => h) (Or.inl ⟨by rfl, ?_⟩) ?_ ?_
     rotate_left
     ·intro w'
      go_simp
      with_reducible rfl
     rotate_left
     ·simp only [Act.put, lsa_, ls0_, ls1_, i64_w, i32_w]
      rfl
     refine one_ (i := 11) (N := some 12) #[t_,t_,t_,t_,t_,t_,t_,t_,t_,t_,t_,t_,f_] rfl rfl (ct_ HT_.out (by kernel_rfl)) (by decide) (fun K hK => ?_)
     refine box_step ?hg (N := 12) ?hd (cs := #[.string (⟨#[]⟩ : ByteArray), .string (⟨#[]⟩ : ByteArray), .int .i64 0, .string (⟨#[]⟩ : ByteArray), .int .i64 0, .int .i64 0, .int .i64 0, .int .i64 0, .slice none 0 0]) (t := 43) ?hr ?_; (case hd => rfl); (case hg => rfl); (case hr => (go_simp; try rfl))
     intro gb120 hg w31 hbox hb
     have HS3_ := (hb.cell (bl_ _ _ (hHeld.2.2.2.1))).trans (hHeld.2.2.2.1)
     have HS4_ := (hb.cell (bl_ _ _ (hHeld.2.2.2.2))).trans (hHeld.2.2.2.2)
     have n0_ := Aside0.mk (Kd.aV_ (rz HO_4.out) hb)
     have n1_ := Aside0.mk (an_ (kz BK101.out) hb)
     have n2_ := Aside0.mk (an_ (kz BK113.out) hb)
     have n3_ := Aside0.mk (ac_ (by repeat (first | (with_reducible first | exact HB.out | apply bA_ | apply bN_ | apply bD_ | refine aa_ ?_ GE101.out | refine aa_ ?_ GE113.out))) hb)
     have n4_ := Aside0.mk (hbox)
     have n5_ := Aside0.mk ((by rw [hg]; exact (ad_ (by repeat (first | (with_reducible first | exact HB.out | apply bA_ | apply bN_ | apply bD_ | refine aa_ ?_ GE101.out | refine aa_ ?_ GE113.out)))) : w.heap.size ≤ gb120))
     have n6_ := Aside0.mk ((by rw [hg]; exact (ad_ (by repeat (first | (with_reducible first | exact HB.out | apply bA_ | apply bN_ | apply bD_ | refine aa_ ?_ GE101.out | refine aa_ ?_ GE113.out)))) : w.heap.size ≤ gb120))
     have n7_ := Aside0.mk ((by rw [hg]; exact Nat.ne_of_lt (bF_ (kz BK101.out)) : gb101 ≠ gb120))
     have n8_ := Aside0.mk ((by rw [hg]; exact Nat.ne_of_gt (bF_ (kz BK101.out)) : gb120 ≠ gb101))
     have n9_ := Aside0.mk ((by rw [hg]; exact Nat.ne_of_lt (bF_ (kz BK113.out)) : gb113 ≠ gb120))
     have n10_ := Aside0.mk ((by rw [hg]; exact Nat.ne_of_gt (bF_ (kz BK113.out)) : gb120 ≠ gb113))
     clear HO_4
     clear BK101
     clear BK113
     clear HB
     have HO_4 := n0_
     have BK101 := n1_
     have BK113 := n2_
     have HB := n3_
     have BK120 := n4_
     have GW120 := n5_
     have GE120 := n6_
     have NB101_120 := n7_
     have NB120_101 := n8_
     have NB113_120 := n9_
     have NB120_113 := n10_
     clear n0_ n1_ n2_ n3_ n4_ n5_ n6_ n7_ n8_ n9_ n10_
     clear hb hbox hg
     refine hK.out _ _ ⟨(am_ BK113.out 0).trans rfl, (am_ BK113.out 1).trans rfl, (am_ BK113.out 2).trans rfl, HS3_, HS4_⟩ (fun hHeld => ?_)
     clear hK K
     refine norm_ (a' := ?_) ?_ ?_
     rotate_left
     ·show Act.put _ (some 12) _ = _
      simp only [Act.put, lsa_, ls0_, ls1_, i64_w, i32_w]
      rfl
     refine one_ (i := 12) (N := none) #[t_,t_,t_,t_,t_,t_,t_,t_,t_,t_,t_,t_,t_] rfl rfl (ct_ HT_.out (by kernel_rfl)) (by decide) (fun K hK => ?_)
     have hs32 : w31.cell? ⟨gb120, 0, none⟩ = some (.string (⟨#[]⟩ : ByteArray)) := (am_ BK120.out 0).trans rfl
     have hfs32 := aY_ BK120.out 0
     have hns32_0 := NB101_120.out
     have hns32_1 := NB113_120.out
     have hms32_0 := NB120_101.out
     have hms32_1 := NB120_113.out
     have hs33 : w31.cell? ⟨gb120, 1, none⟩ = some (.string (⟨#[]⟩ : ByteArray)) := (am_ BK120.out 1).trans rfl
     have hfs33 := aY_ BK120.out 1
     have hns33_0 := NB101_120.out
     have hns33_1 := NB113_120.out
     have hms33_0 := NB120_101.out
     have hms33_1 := NB120_113.out
     have hs34 : w31.cell? ⟨gb120, 2, none⟩ = some (.int .i64 0) := (am_ BK120.out 2).trans rfl
     have hfs34 := aY_ BK120.out 2
     have hns34_0 := NB101_120.out
     have hns34_1 := NB113_120.out
     have hms34_0 := NB120_101.out
     have hms34_1 := NB120_113.out
     have hs35 : w31.cell? ⟨gb120, 3, none⟩ = some (.string (⟨#[]⟩ : ByteArray)) := (am_ BK120.out 3).trans rfl
     have hfs35 := aY_ BK120.out 3
     have hns35_0 := NB101_120.out
     have hns35_1 := NB113_120.out
     have hms35_0 := NB120_101.out
     have hms35_1 := NB120_113.out
     have hs36 : w31.cell? ⟨gb120, 4, none⟩ = some (.int .i64 0) := (am_ BK120.out 4).trans rfl
     have hfs36 := aY_ BK120.out 4
     have hns36_0 := NB101_120.out
     have hns36_1 := NB113_120.out
     have hms36_0 := NB120_101.out
     have hms36_1 := NB120_113.out
     have hs37 : w31.cell? ⟨gb120, 5, none⟩ = some (.int .i64 0) := (am_ BK120.out 5).trans rfl
     have hfs37 := aY_ BK120.out 5
     have hns37_0 := NB101_120.out
     have hns37_1 := NB113_120.out
     have hms37_0 := NB120_101.out
     have hms37_1 := NB120_113.out
     have hs38 : w31.cell? ⟨gb120, 6, none⟩ = some (.int .i64 0) := (am_ BK120.out 6).trans rfl
     have hfs38 := aY_ BK120.out 6
     have hns38_0 := NB101_120.out
     have hns38_1 := NB113_120.out
     have hms38_0 := NB120_101.out
     have hms38_1 := NB120_113.out
     have hs39 : w31.cell? ⟨gb120, 7, none⟩ = some (.int .i64 0) := (am_ BK120.out 7).trans rfl
     have hfs39 := aY_ BK120.out 7
     have hns39_0 := NB101_120.out
     have hns39_1 := NB113_120.out
     have hms39_0 := NB120_101.out
     have hms39_1 := NB120_113.out
     have hs40 : w31.cell? ⟨gb120, 8, none⟩ = some (.slice none 0 0) := (am_ BK120.out 8).trans rfl
     have hfs40 := aY_ BK120.out 8
     have hns40_0 := NB101_120.out
     have hns40_1 := NB113_120.out
     have hms40_0 := NB120_101.out
     have hms40_1 := NB120_113.out
     refine skip_ (w1 := ?_) (by rfl) rfl ?_ ?_
     rotate_left
     ·go_simp
      rfl
     refine hK.out _ _ ⟨(cf ((cf ((cf ((cf ((cf ((cf ((cf ((cf ((cf (hHeld.1) NB113_120.out)) NB113_120.out)) NB113_120.out)) NB113_120.out)) NB113_120.out)) NB113_120.out)) NB113_120.out)) NB113_120.out)) NB113_120.out), (cf ((cf ((cf ((cf ((cf ((cf ((cf ((cf ((cf (hHeld.2.1) NB113_120.out)) NB113_120.out)) NB113_120.out)) NB113_120.out)) NB113_120.out)) NB113_120.out)) NB113_120.out)) NB113_120.out)) NB113_120.out), (cf ((cf ((cf ((cf ((cf ((cf ((cf ((cf ((cf (hHeld.2.2.1) NB113_120.out)) NB113_120.out)) NB113_120.out)) NB113_120.out)) NB113_120.out)) NB113_120.out)) NB113_120.out)) NB113_120.out)) NB113_120.out), (cf ((cf ((cf ((cf ((cf ((cf ((cf ((cf ((cf (hHeld.2.2.2.1) (by first | exact Kd.aE_ (Kd.R_ne HO_4.out BK120.out (by decide)) | (dsimp only; exact Kd.aE_ (Kd.R_ne HO_4.out BK120.out (by decide)))))) (by first | exact Kd.aE_ (Kd.R_ne HO_4.out BK120.out (by decide)) | (dsimp only; exact Kd.aE_ (Kd.R_ne HO_4.out BK120.out (by decide)))))) (by first | exact Kd.aE_ (Kd.R_ne HO_4.out BK120.out (by decide)) | (dsimp only; exact Kd.aE_ (Kd.R_ne HO_4.out BK120.out (by decide)))))) (by first | exact Kd.aE_ (Kd.R_ne HO_4.out BK120.out (by decide)) | (dsimp only; exact Kd.aE_ (Kd.R_ne HO_4.out BK120.out (by decide)))))) (by first | exact Kd.aE_ (Kd.R_ne HO_4.out BK120.out (by decide)) | (dsimp only; exact Kd.aE_ (Kd.R_ne HO_4.out BK120.out (by decide)))))) (by first | exact Kd.aE_ (Kd.R_ne HO_4.out BK120.out (by decide)) | (dsimp only; exact Kd.aE_ (Kd.R_ne HO_4.out BK120.out (by decide)))))) (by first | exact Kd.aE_ (Kd.R_ne HO_4.out BK120.out (by decide)) | (dsimp only; exact Kd.aE_ (Kd.R_ne HO_4.out BK120.out (by decide)))))) (by first | exact Kd.aE_ (Kd.R_ne HO_4.out BK120.out (by decide)) | (dsimp only; exact Kd.aE_ (Kd.R_ne HO_4.out BK120.out (by decide)))))) (by first | exact Kd.aE_ (Kd.R_ne HO_4.out BK120.out (by decide)) | (dsimp only; exact Kd.aE_ (Kd.R_ne HO_4.out BK120.out (by decide))))), (cf ((cf ((cf ((cf ((cf ((cf ((cf ((cf ((cf (hHeld.2.2.2.2) (by first | exact Kd.aE_ (Kd.R_ne HO_4.out BK120.out (by decide)) | (dsimp only; exact Kd.aE_ (Kd.R_ne HO_4.out BK120.out (by decide)))))) (by first | exact Kd.aE_ (Kd.R_ne HO_4.out BK120.out (by decide)) | (dsimp only; exact Kd.aE_ (Kd.R_ne HO_4.out BK120.out (by decide)))))) (by first | exact Kd.aE_ (Kd.R_ne HO_4.out BK120.out (by decide)) | (dsimp only; exact Kd.aE_ (Kd.R_ne HO_4.out BK120.out (by decide)))))) (by first | exact Kd.aE_ (Kd.R_ne HO_4.out BK120.out (by decide)) | (dsimp only; exact Kd.aE_ (Kd.R_ne HO_4.out BK120.out (by decide)))))) (by first | exact Kd.aE_ (Kd.R_ne HO_4.out BK120.out (by decide)) | (dsimp only; exact Kd.aE_ (Kd.R_ne HO_4.out BK120.out (by decide)))))) (by first | exact Kd.aE_ (Kd.R_ne HO_4.out BK120.out (by decide)) | (dsimp only; exact Kd.aE_ (Kd.R_ne HO_4.out BK120.out (by decide)))))) (by first | exact Kd.aE_ (Kd.R_ne HO_4.out BK120.out (by decide)) | (dsimp only; exact Kd.aE_ (Kd.R_ne HO_4.out BK120.out (by decide)))))) (by first | exact Kd.aE_ (Kd.R_ne HO_4.out BK120.out (by decide)) | (dsimp only; exact Kd.aE_ (Kd.R_ne HO_4.out BK120.out (by decide)))))) (by first | exact Kd.aE_ (Kd.R_ne HO_4.out BK120.out (by decide)) | (dsimp only; exact Kd.aE_ (Kd.R_ne HO_4.out BK120.out (by decide)))))⟩ (fun hHeld => ?_)
     clear hK K
     refine done_ (cN_ HT_.out (by kernel_rfl)) ?_
     have n0_ : Aside0 (Kd.R Kd.string 9 (((((((((w31.setCell ⟨gb120, 0, none⟩ (.string (rdOf ByteArray.empty t102 0))).setCell ⟨gb120, 1, none⟩ (.string (rdOf ByteArray.empty t102 1))).setCell ⟨gb120, 2, none⟩ (.int .i64 t106)).setCell ⟨gb120, 3, none⟩ (.string t109)).setCell ⟨gb120, 4, none⟩ (.int .i64 t110)).setCell ⟨gb120, 5, none⟩ (.int .i64 t111)).setCell ⟨gb120, 6, none⟩ (.int .i64 t115)).setCell ⟨gb120, 7, none⟩ (.int .i64 t116)).setCell ⟨gb120, 8, none⟩ (.slice none 0 0)) w.heap.size (fun _ => True) (.slice (some ad105) t102.length co6) t102) := ⟨rz (Kd.bg_ (Kd.R_far (p := ⟨gb120, 8, none⟩) (Kd.R_far (p := ⟨gb120, 7, none⟩) (Kd.R_far (p := ⟨gb120, 6, none⟩) (Kd.R_far (p := ⟨gb120, 5, none⟩) (Kd.R_far (p := ⟨gb120, 4, none⟩) (Kd.R_far (p := ⟨gb120, 3, none⟩) (Kd.R_far (p := ⟨gb120, 2, none⟩) (Kd.R_far (p := ⟨gb120, 1, none⟩) (Kd.R_far (p := ⟨gb120, 0, none⟩) (Kd.bW_ HO_4.out BK120.out (by decide)) (fun _ hk => hk.2) (.string (rdOf ByteArray.empty t102 0))) (fun _ hk => hk.2) (.string (rdOf ByteArray.empty t102 1))) (fun _ hk => hk.2) (.int .i64 t106)) (fun _ hk => hk.2) (.string t109)) (fun _ hk => hk.2) (.int .i64 t110)) (fun _ hk => hk.2) (.int .i64 t111)) (fun _ hk => hk.2) (.int .i64 t115)) (fun _ hk => hk.2) (.int .i64 t116)) (fun _ hk => hk.2) (.slice none 0 0)) (fun _ hk => trivial))⟩
     have n1_ : Aside0 ((((((((((w31.setCell ⟨gb120, 0, none⟩ (.string (rdOf ByteArray.empty t102 0))).setCell ⟨gb120, 1, none⟩ (.string (rdOf ByteArray.empty t102 1))).setCell ⟨gb120, 2, none⟩ (.int .i64 t106)).setCell ⟨gb120, 3, none⟩ (.string t109)).setCell ⟨gb120, 4, none⟩ (.int .i64 t110)).setCell ⟨gb120, 5, none⟩ (.int .i64 t111)).setCell ⟨gb120, 6, none⟩ (.int .i64 t115)).setCell ⟨gb120, 7, none⟩ (.int .i64 t116)).setCell ⟨gb120, 8, none⟩ (.slice none 0 0)).heap[gb101]? = some (.cells #[.string (⟨#[]⟩ : ByteArray), .string (⟨#[]⟩ : ByteArray), .int .i64 0, .string (⟨#[]⟩ : ByteArray), .int .i64 0, .int .i64 0, .int .i64 0, .int .i64 0, .slice none 0 0] 43 (0, 0))) := ⟨by exact kf (kf (kf (kf (kf (kf (kf (kf (kf (kz BK101.out) NB101_120.out) NB101_120.out) NB101_120.out) NB101_120.out) NB101_120.out) NB101_120.out) NB101_120.out) NB101_120.out) NB101_120.out⟩
     have n2_ : Aside0 ((((((((((w31.setCell ⟨gb120, 0, none⟩ (.string (rdOf ByteArray.empty t102 0))).setCell ⟨gb120, 1, none⟩ (.string (rdOf ByteArray.empty t102 1))).setCell ⟨gb120, 2, none⟩ (.int .i64 t106)).setCell ⟨gb120, 3, none⟩ (.string t109)).setCell ⟨gb120, 4, none⟩ (.int .i64 t110)).setCell ⟨gb120, 5, none⟩ (.int .i64 t111)).setCell ⟨gb120, 6, none⟩ (.int .i64 t115)).setCell ⟨gb120, 7, none⟩ (.int .i64 t116)).setCell ⟨gb120, 8, none⟩ (.slice none 0 0)).heap[gb113]? = some (.cells #[.string t109, .int .i64 t110, .int .i64 t111] 40 (0, 0))) := ⟨by exact kf (kf (kf (kf (kf (kf (kf (kf (kf (kz BK113.out) NB113_120.out) NB113_120.out) NB113_120.out) NB113_120.out) NB113_120.out) NB113_120.out) NB113_120.out) NB113_120.out) NB113_120.out⟩
     have n3_ : Aside0 ((((((((((w31.setCell ⟨gb120, 0, none⟩ (.string (rdOf ByteArray.empty t102 0))).setCell ⟨gb120, 1, none⟩ (.string (rdOf ByteArray.empty t102 1))).setCell ⟨gb120, 2, none⟩ (.int .i64 t106)).setCell ⟨gb120, 3, none⟩ (.string t109)).setCell ⟨gb120, 4, none⟩ (.int .i64 t110)).setCell ⟨gb120, 5, none⟩ (.int .i64 t111)).setCell ⟨gb120, 6, none⟩ (.int .i64 t115)).setCell ⟨gb120, 7, none⟩ (.int .i64 t116)).setCell ⟨gb120, 8, none⟩ (.slice none 0 0)).heap[gb120]? = some (.cells #[.string (rdOf ByteArray.empty t102 0), .string (rdOf ByteArray.empty t102 1), .int .i64 t106, .string t109, .int .i64 t110, .int .i64 t111, .int .i64 t115, .int .i64 t116, .slice none 0 0] 43 (0, 0))) := ⟨by exact kj9_8 (kj9_7 (kj9_6 (kj9_5 (kj9_4 (kj9_3 (kj9_2 (kj9_1 (kj9_0 (kz BK120.out)))))))))⟩
     have n4_ : Aside0 (Below w.heap.size w (((((((((w31.setCell ⟨gb120, 0, none⟩ (.string (rdOf ByteArray.empty t102 0))).setCell ⟨gb120, 1, none⟩ (.string (rdOf ByteArray.empty t102 1))).setCell ⟨gb120, 2, none⟩ (.int .i64 t106)).setCell ⟨gb120, 3, none⟩ (.string t109)).setCell ⟨gb120, 4, none⟩ (.int .i64 t110)).setCell ⟨gb120, 5, none⟩ (.int .i64 t111)).setCell ⟨gb120, 6, none⟩ (.int .i64 t115)).setCell ⟨gb120, 7, none⟩ (.int .i64 t116)).setCell ⟨gb120, 8, none⟩ (.slice none 0 0))) := ⟨by repeat (first | (with_reducible first | exact HB.out | apply bA_ | apply bN_ | apply bD_ | refine aa_ ?_ GE101.out | refine aa_ ?_ GE113.out | refine aa_ ?_ GE120.out))⟩
     (try clear HO_4)
     (try clear BK101)
     (try clear BK113)
     (try clear BK120)
     (try clear HB)
     generalize (((((((((w31.setCell ⟨gb120, 0, none⟩ (.string (rdOf ByteArray.empty t102 0))).setCell ⟨gb120, 1, none⟩ (.string (rdOf ByteArray.empty t102 1))).setCell ⟨gb120, 2, none⟩ (.int .i64 t106)).setCell ⟨gb120, 3, none⟩ (.string t109)).setCell ⟨gb120, 4, none⟩ (.int .i64 t110)).setCell ⟨gb120, 5, none⟩ (.int .i64 t111)).setCell ⟨gb120, 6, none⟩ (.int .i64 t115)).setCell ⟨gb120, 7, none⟩ (.int .i64 t116)).setCell ⟨gb120, 8, none⟩ (.slice none 0 0)) = w41 at n0_ n1_ n2_ n3_ n4_ ⊢
     have HO_4 := n0_
     have BK101 := n1_
     have BK113 := n2_
     have BK120 := n3_
     have HB := n4_
     clear n0_ n1_ n2_ n3_ n4_
     have q42 : (5 : Int) ≤ ((t102.length : Int) : Int) := of_decide_eq_true (by assumption)
     obtain ⟨i042, hi042, _, hsz42, _⟩ := info_parts info9
     have hroom42 : t102.length ≤ co6 := (Kd.av_ HO_4.out).2.1
     have hC42 : Kd.C Kd.string _ (some ad105) t102.length t102 := (Kd.av_ HO_4.out).2.2
     have hcut42 := cut_from (P := Tryz.prog) 54 9 .i64 Tryz.underlying54 hi042 1 hsz42 (some ad105) t102.length co6 5 (by omega) q42
     have hr42 := Kd.C_drop (m := (5 : Int).toNat) (c := co6) hC42 (by omega) hroom42
     obtain ⟨A42, hA42⟩ : ∃ A1, A1 = (if co6 = (5 : Int).toNat then (some ad105) else ((some ad105) : Option Addr).map (·.add ((5 : Int).toNat * 1))) := ⟨_, rfl⟩
     obtain ⟨c42, hc42⟩ : ∃ c1, c1 = co6 - (5 : Int).toNat := ⟨_, rfl⟩
     have hy42 : y121.length = t102.length - (5 : Int).toNat := (by rw [Ny121.out, List.length_drop] <;> omega)
     rw [show (t102).drop (5 : Int).toNat = y121 from Ny121.out.symm] at hr42
     replace hr42 : Kd.C Kd.string _ A42 y121.length y121 := (by rw [hA42]; exact hr42)
     rw [← hy42, ← hA42, ← hc42] at hcut42
     have HR124 := Aside0.mk hr42
     have HC124 := Aside0.mk (show y121.length ≤ c42 from by rw [hy42, hc42]; exact Nat.sub_le_sub_right hroom42 _)
     clear hr42 hC42 hroom42 hi042 hsz42 hc42
     have KY42 := Aside0.mk hy42
     have KA42 := Aside0.mk hA42
     clear hy42 hA42
     have KL42 := Aside0.mk (show 5 ≤ t102.length from by omega)
     replace q42 := eq_true q42
     try go_wp2
     (try simp only [Act.put, lsa_, ls0_, ls1_])
     go_loopg [70] kj14 (fun kq v70 w' => ∃ (x70_2 : Int) (x102000_2 : ByteArray) (x102001_2 : ByteArray) (x102002_2 : Int) (x102003_2 : ByteArray) (x102004_2 : Int) (x102005_2 : Int) (x102006_2 : Int) (x102007_2 : Int) (x121008_2 : List (S66)) (u121008 : Value), v70 = .int .i64 x70_2 ∧ Aside0 (az_.l0 kq a0 t102 y121 (y121.length : Int) x70_2 (rdOf ByteArray.empty t102 0) (rdOf ByteArray.empty t102 1) t106 t109 t110 t111 t115 t116 x121008_2 = some (r1, r2, r3, r4, r5, r6, r7, r8, r9, r10)) ∧ Aside0 (kq ≤ kj14) ∧ Aside0 (Kd.R Kd.string 9 w' w.heap.size (fun _ => True) (.slice (some ad105) t102.length co6) t102) ∧ Aside0 (Kd.R k66 66 w' w.heap.size (fun _ => True) u121008 x121008_2) ∧ Aside0 (w'.heap[gb101]? = some (.cells #[.string x102000_2, .string x102001_2, .int .i64 x102002_2, .string x102003_2, .int .i64 x102004_2, .int .i64 x102005_2, .int .i64 x102006_2, .int .i64 x102007_2, (.slice none 0 0)] 43 (0, 0))) ∧ Aside0 (w'.heap[gb113]? = some (.cells #[.string t109, .int .i64 t110, .int .i64 t111] 40 (0, 0))) ∧ Aside0 (w'.heap[gb120]? = some (.cells #[.string (rdOf ByteArray.empty t102 0), .string (rdOf ByteArray.empty t102 1), .int .i64 t106, .string t109, .int .i64 t110, .int .i64 t111, .int .i64 t115, .int .i64 t116, u121008] 43 (0, 0))) ∧ Aside0 (Kd.C Kd.string w' A42 y121.length y121) ∧ Aside0 (Below w.heap.size w w'))
     case atStart => exact ⟨(0), ((⟨#[]⟩ : ByteArray)), ((⟨#[]⟩ : ByteArray)), (0), ((⟨#[]⟩ : ByteArray)), (0), (0), (0), (0), (([] : List (S66))), (.slice none 0 0), (by first | rfl | (simp; done) | (simp [*]; done)), H', ⟨Nat.le_refl _⟩, ⟨rz HO_4.out⟩, ⟨by first | exact Kd.R_nil _ _ _ _ _ | exact Kd.N_nil _ _ _ _ _ | exact Kd.V_nil _ _ _ _ _ | exact Kd.Q_nil _ _ _ _ _ | exact Kd.S_nil _ _ _ _ _⟩, ⟨by (with_reducible repeat (first | refine cd_ ?_ _ | refine bH_ ?_ | refine bE_ ?_ _)); exact BK101.out⟩, ⟨by (with_reducible repeat (first | refine cd_ ?_ _ | refine bH_ ?_ | refine bE_ ?_ _)); exact BK113.out⟩, ⟨by (with_reducible repeat (first | refine cd_ ?_ _ | refine bH_ ?_ | refine bE_ ?_ _)); exact BK120.out⟩, ⟨by repeat (first | (with_reducible exact HR124.out) | (with_reducible first | refine Kd.C_alloc ?_ _ | refine Kd.C_drewN ?_ _ | refine Kd.C_drew ?_) | exact HR124.out)⟩, ⟨by repeat (first | (with_reducible first | exact HB.out | apply bA_ | apply bN_ | apply bD_ | refine aa_ ?_ GE101.out | refine aa_ ?_ GE113.out | refine aa_ ?_ GE120.out))⟩⟩
     case round =>
      clear H'
      obtain ⟨x70_2, x102000_2, x102001_2, x102002_2, x102003_2, x102004_2, x102005_2, x102006_2, x102007_2, x121008_2, u121008, rfl, HA, HK2, HO_4, HO_121008, BK101, BK113, BK120, HR124, HB⟩ := hrel
      cases gk with
      | zero => exact absurd HA.out (by simp [az_.l0])
      | succ k2 =>
       have H := HA.out
       clear HA
       simp only [az_.l0] at H
       by_cases c43 : x70_2 < (y121.length : Int)
       rotate_left
       ·rw [if_neg c43] at H
        have c43b0 : decide (x70_2 < (y121.length : Int)) = false := decide_eq_false c43
        clear c43
        replace H := Option.bind_eq_some_iff.mp H
        obtain ⟨t135, A700, H⟩ := H
        (try dsimp only at H)
        have A70 := Aside0.mk A700
        clear A700
        have HC71 := Aside0.mk H
        clear H
        have hnb72 := NB120_101.out
        have hnc72 := NB101_120.out
        have hnb73 := NB120_113.out
        have hnc73 := NB113_120.out
        obtain ⟨hcz74_0, hcz74_1, hcz74_2, hcz74_3, hcz74_4, hcz74_5, hcz74_6, hcz74_7, hcz74_8⟩ := cz9_ BK120.out
        obtain ⟨hfz74_0, hfz74_1, hfz74_2, hfz74_3, hfz74_4, hfz74_5, hfz74_6, hfz74_7, hfz74_8⟩ := fz9_ BK120.out
        obtain ⟨Ao75, co75, eo75⟩ := Kd.bv_ HO_121008.out
        subst eo75
        go_upto_if 92 with (first | ((with_reducible refine af_ (f := 39) rfl ?_); refine aJ_ (some 90) rfl rfl Tryz.func39 (by kernel_rfl) rfl #[.agg #[.string (rdOf ByteArray.empty t102 0), .string (rdOf ByteArray.empty t102 1), .int .i64 t106, .string t109, .int .i64 t110, .int .i64 t111, .int .i64 t115, .int .i64 t116, .slice Ao75 x121008_2.length co75]] rfl (by first | rfl | (simp only [lma_, lmc_, lmn_]; first | done | rfl)) ?_; (with_reducible refine (aT_.calls k2 (rdOf ByteArray.empty t102 0) (rdOf ByteArray.empty t102 1) t106 t109 t110 t111 t115 t116 _ _ x121008_2 t135 _ ?side1 ?side2 ?side3 A70.out).mono ?_); (case side1 => exact cz (Kd.av_ HO_121008.out).2.2); (case side2 => exact (Kd.av_ HO_121008.out).2.1); (case side3 => exact bc_ HTab_.out (by repeat (first | (with_reducible first | exact HB.out | apply bA_ | apply bN_ | apply bD_ | refine aa_ ?_ GE101.out | refine aa_ ?_ GE113.out | refine aa_ ?_ GE120.out)))); rintro e w76 ⟨rfl, hb⟩; refine ⟨_, rfl, ?_⟩; replace HO_4 := Aside0.mk (Kd.aV_ (rz HO_4.out) hb); replace HO_121008 := Aside0.mk (Kd.aV_ (rz HO_121008.out) hb); replace BK101 := Aside0.mk (an_ (kz BK101.out) hb); replace BK113 := Aside0.mk (an_ (kz BK113.out) hb); replace BK120 := Aside0.mk (an_ (kz BK120.out) hb); replace HR124 := Aside0.mk (Kd.bU_ (by repeat (first | (with_reducible exact HR124.out) | (with_reducible first | refine Kd.C_alloc ?_ _ | refine Kd.C_drewN ?_ _ | refine Kd.C_drew ?_) | exact HR124.out)) hb); replace HB := Aside0.mk (ac_ (by repeat (first | (with_reducible first | exact HB.out | apply bA_ | apply bN_ | apply bD_ | refine aa_ ?_ GE101.out | refine aa_ ?_ GE113.out | refine aa_ ?_ GE120.out))) hb); (try clear hb)))
        (try simp only [Act.put, lsa_, ls0_, ls1_])
        have H := HC71.out
        clear HC71
        by_cases c77 : t135.toList = a0.toList
        rotate_left
        ·rw [if_neg c77] at H
         have c77b0 : (t135.toList == a0.toList) = false := beq_eq_false_iff_ne.mpr c77
         have c77b1 : (t135.toList != a0.toList) = true := bne_iff_ne.mpr c77
         (first | rw [c77b0] | (simp only [i64_w, i32_w]; rw [c77b0]) | (simp only [c77b1, Bool.not_true, Bool.not_false]) | (simp only [c77b0, Bool.not_true, Bool.not_false]) | skip)
         simp only [Option.some.injEq, Prod.mk.injEq] at H
         obtain ⟨rfl, rfl, rfl, rfl, rfl, rfl, rfl, rfl, rfl, rfl⟩ := H
         have hnb83 := NB101_113.out
         have hnc83 := NB113_101.out
         have hnb84 := NB101_120.out
         have hnc84 := NB120_101.out
         obtain ⟨hcz85_0, hcz85_1, hcz85_2, hcz85_3, hcz85_4, hcz85_5, hcz85_6, hcz85_7, hcz85_8⟩ := cz9_ BK101.out
         obtain ⟨hfz85_0, hfz85_1, hfz85_2, hfz85_3, hfz85_4, hfz85_5, hfz85_6, hfz85_7, hfz85_8⟩ := fz9_ BK101.out
         go_wp2
         refine bodyPost_ret (bB_ rfl _ _ gb101 43 #[.string (⟨#[]⟩ : ByteArray), .string (⟨#[]⟩ : ByteArray), .int .i64 0, .string (⟨#[]⟩ : ByteArray), .int .i64 0, .int .i64 0, .int .i64 0, .int .i64 0, .slice none 0 0] (0, 0) _ rfl (by exact kj9_8 (kj9_7 (kj9_6 (kj9_5 (kj9_4 (kj9_3 (kj9_2 (kj9_1 (kj9_0 (kz BK101.out)))))))))) Tryz.underlying43 rfl (by kernel_rfl)) rfl ?_
         exact ⟨_, by first | rfl | (simp [*, ai_, ah_] <;> rfl), by first | exact Kd.R_nil _ _ _ _ _ | exact Kd.N_nil _ _ _ _ _ | exact Kd.V_nil _ _ _ _ _ | exact Kd.Q_nil _ _ _ _ _ | exact Kd.S_nil _ _ _ _ _, by repeat (first | (with_reducible first | exact HB.out | apply bA_ | apply bN_ | apply bD_ | refine aa_ ?_ GE101.out | refine aa_ ?_ GE113.out | refine aa_ ?_ GE120.out))⟩
        rw [if_pos c77] at H
        have c77b0 : (t135.toList == a0.toList) = true := beq_iff_eq.mpr c77
        have c77b1 : (t135.toList != a0.toList) = false := bne_eq_false_iff_eq.mpr c77
        clear c77
        (first | rw [c77b0] | (simp only [i64_w, i32_w]; rw [c77b0]) | (simp only [c77b1, Bool.not_true, Bool.not_false]) | (simp only [c77b0, Bool.not_true, Bool.not_false]) | skip)
        simp only [Option.some.injEq, Prod.mk.injEq] at H
        obtain ⟨rfl, rfl, rfl, rfl, rfl, rfl, rfl, rfl, rfl, rfl⟩ := H
        have hnb78 := NB120_101.out
        have hnc78 := NB101_120.out
        have hnb79 := NB120_113.out
        have hnc79 := NB113_120.out
        obtain ⟨hcz80_0, hcz80_1, hcz80_2, hcz80_3, hcz80_4, hcz80_5, hcz80_6, hcz80_7, hcz80_8⟩ := cz9_ BK120.out
        obtain ⟨hfz80_0, hfz80_1, hfz80_2, hfz80_3, hfz80_4, hfz80_5, hfz80_6, hfz80_7, hfz80_8⟩ := fz9_ BK120.out
        have hnb81 := NB101_113.out
        have hnc81 := NB113_101.out
        obtain ⟨hcz82_0, hcz82_1, hcz82_2, hcz82_3, hcz82_4, hcz82_5, hcz82_6, hcz82_7, hcz82_8⟩ := cz9_ BK101.out
        obtain ⟨hfz82_0, hfz82_1, hfz82_2, hfz82_3, hfz82_4, hfz82_5, hfz82_6, hfz82_7, hfz82_8⟩ := fz9_ BK101.out
        go_wp2
        refine bodyPost_ret (bB_ rfl _ _ gb101 43 #[.string (rdOf ByteArray.empty t102 0), .string (rdOf ByteArray.empty t102 1), .int .i64 t106, .string t109, .int .i64 t110, .int .i64 t111, .int .i64 t115, .int .i64 t116, .slice Ao75 x121008_2.length co75] (0, 0) _ rfl (by exact kj9_8 (kj9_7 (kj9_6 (kj9_5 (kj9_4 (kj9_3 (kj9_2 (kj9_1 (kj9_0 (kz BK101.out)))))))))) Tryz.underlying43 rfl (by kernel_rfl)) rfl ?_
        exact ⟨_, by first | rfl | (simp [*, ai_, ah_] <;> rfl), rz (Kd.bg_ (Kd.R_far (p := ⟨gb101, 8, none⟩) (Kd.R_far (p := ⟨gb101, 7, none⟩) (Kd.R_far (p := ⟨gb101, 6, none⟩) (Kd.R_far (p := ⟨gb101, 5, none⟩) (Kd.R_far (p := ⟨gb101, 4, none⟩) (Kd.R_far (p := ⟨gb101, 3, none⟩) (Kd.R_far (p := ⟨gb101, 2, none⟩) (Kd.R_far (p := ⟨gb101, 1, none⟩) (Kd.R_far (p := ⟨gb101, 0, none⟩) (Kd.bW_ HO_121008.out BK101.out (by decide)) (fun _ hk => hk.2) (.string (rdOf ByteArray.empty t102 0))) (fun _ hk => hk.2) (.string (rdOf ByteArray.empty t102 1))) (fun _ hk => hk.2) (.int .i64 t106)) (fun _ hk => hk.2) (.string t109)) (fun _ hk => hk.2) (.int .i64 t110)) (fun _ hk => hk.2) (.int .i64 t111)) (fun _ hk => hk.2) (.int .i64 t115)) (fun _ hk => hk.2) (.int .i64 t116)) (fun _ hk => hk.2) (.slice Ao75 x121008_2.length co75)) (fun _ hk => trivial)), by repeat (first | (with_reducible first | exact HB.out | apply bA_ | apply bN_ | apply bD_ | refine aa_ ?_ GE101.out | refine aa_ ?_ GE113.out | refine aa_ ?_ GE120.out))⟩
       rw [if_pos c43] at H
       have c43b0 : decide (x70_2 < (y121.length : Int)) = true := decide_eq_true c43
       clear c43
       by_cases c44 : 0 ≤ x70_2
       rotate_left
       ·rw [if_neg c44] at H
        exact absurd H (by simp)
       rw [if_pos c44] at H
       have c44b0 : decide (0 ≤ x70_2) = true := decide_eq_true c44
       clear c44
       by_cases c45 : x70_2 < (y121.length : Int)
       rotate_left
       ·rw [if_neg c45] at H
        exact absurd H (by simp)
       rw [if_pos c45] at H
       have c45b0 : decide (x70_2 < (y121.length : Int)) = true := decide_eq_true c45
       clear c45
       replace H := Option.bind_eq_some_iff.mp H
       obtain ⟨⟨t126, t127, t128, t129, t130⟩, A460, H⟩ := H
       (try dsimp only at H)
       have A46 := Aside0.mk A460
       clear A460
       have HC47 := Aside0.mk H
       clear H
       have p125 : 0 ≤ (x70_2 : Int) := of_decide_eq_true (by assumption)
       have q125 : x70_2 < (y121.length : Int) := of_decide_eq_true (by assumption)
       obtain ⟨ad125, e125, hx125_0⟩ := Kd.bf_ (by repeat (first | (with_reducible exact HR124.out) | (with_reducible first | refine Kd.C_alloc ?_ _ | refine Kd.C_drewN ?_ _ | refine Kd.C_drew ?_) | exact HR124.out)) x70_2 p125 q125
       cases e125
       replace p125 := eq_true p125
       replace q125 := eq_true q125
       go_upto_if 80 with (first | ((with_reducible refine af_ (f := 38) rfl ?_); refine aJ_ (some 76) rfl rfl Tryz.func38 (by kernel_rfl) rfl #[.string (rdOf ByteArray.empty y121 x70_2)] rfl (by first | rfl | (simp only [lma_, lmc_, lmn_]; first | done | rfl)) ?_; (with_reducible refine (bM_.calls k2 (rdOf ByteArray.empty y121 x70_2) t126 t127 t128 t129 t130 _ ?side1 A46.out).mono ?_); (case side1 => exact bc_ HTab_.out (by repeat (first | (with_reducible first | exact HB.out | apply bA_ | apply bN_ | apply bD_ | refine aa_ ?_ GE101.out | refine aa_ ?_ GE113.out | refine aa_ ?_ GE120.out)))); rintro e w48 ⟨rfl, hb⟩; refine ⟨_, rfl, ?_⟩; replace HO_4 := Aside0.mk (Kd.aV_ (rz HO_4.out) hb); replace HO_121008 := Aside0.mk (Kd.aV_ (rz HO_121008.out) hb); replace BK101 := Aside0.mk (an_ (kz BK101.out) hb); replace BK113 := Aside0.mk (an_ (kz BK113.out) hb); replace BK120 := Aside0.mk (an_ (kz BK120.out) hb); replace HR124 := Aside0.mk (Kd.bU_ (by repeat (first | (with_reducible exact HR124.out) | (with_reducible first | refine Kd.C_alloc ?_ _ | refine Kd.C_drewN ?_ _ | refine Kd.C_drew ?_) | exact HR124.out)) hb); replace HB := Aside0.mk (ac_ (by repeat (first | (with_reducible first | exact HB.out | apply bA_ | apply bN_ | apply bD_ | refine aa_ ?_ GE101.out | refine aa_ ?_ GE113.out | refine aa_ ?_ GE120.out))) hb); (try clear hb)) | ((with_reducible refine aI_ (N := 15) rfl ?_); refine aR_ ?hg (N := 15) ?hd (cs := #[.int .i64 0, .int .i64 0, .int .i64 0, .int .i64 0]) (t := 66) ?hr ?_; (case hd => rfl); (case hg => rfl); (case hr => (go_simp; try rfl)); intro gb131 hg w49 hbox hb; replace HO_4 := Aside0.mk (Kd.aV_ (rz HO_4.out) hb); replace HO_121008 := Aside0.mk (Kd.aV_ (Kd.R_elderB (rz HO_121008.out) gb131 (Nat.le_of_eq hg.symm)) hb); replace HR124 := Aside0.mk (Kd.bU_ (by repeat (first | (with_reducible exact HR124.out) | (with_reducible first | refine Kd.C_alloc ?_ _ | refine Kd.C_drewN ?_ _ | refine Kd.C_drew ?_) | exact HR124.out)) hb); have BK131 := Aside0.mk (hbox); have GW131 := Aside0.mk ((by rw [hg]; exact (ad_ (by repeat (first | (with_reducible first | exact HB.out | apply bA_ | apply bN_ | apply bD_ | refine aa_ ?_ GE101.out | refine aa_ ?_ GE113.out | refine aa_ ?_ GE120.out)))) : w.heap.size ≤ gb131)); have GE131 := Aside0.mk ((by rw [hg]; exact (ad_ (by repeat (first | (with_reducible first | exact HB.out | apply bA_ | apply bN_ | apply bD_ | refine aa_ ?_ GE101.out | refine aa_ ?_ GE113.out | refine aa_ ?_ GE120.out)))) : w.heap.size ≤ gb131)); replace HB := Aside0.mk (ac_ (by repeat (first | (with_reducible first | exact HB.out | apply bA_ | apply bN_ | apply bD_ | refine aa_ ?_ GE101.out | refine aa_ ?_ GE113.out | refine aa_ ?_ GE120.out))) hb); have NB101_131 := Aside0.mk ((by rw [hg]; exact Nat.ne_of_lt (bF_ (kz BK101.out)) : gb101 ≠ gb131)); have NB131_101 := Aside0.mk ((by rw [hg]; exact Nat.ne_of_gt (bF_ (kz BK101.out)) : gb131 ≠ gb101)); replace BK101 := Aside0.mk (an_ (kz BK101.out) hb); have NB113_131 := Aside0.mk ((by rw [hg]; exact Nat.ne_of_lt (bF_ (kz BK113.out)) : gb113 ≠ gb131)); have NB131_113 := Aside0.mk ((by rw [hg]; exact Nat.ne_of_gt (bF_ (kz BK113.out)) : gb131 ≠ gb113)); replace BK113 := Aside0.mk (an_ (kz BK113.out) hb); have NB120_131 := Aside0.mk ((by rw [hg]; exact Nat.ne_of_lt (bF_ (kz BK120.out)) : gb120 ≠ gb131)); have NB131_120 := Aside0.mk ((by rw [hg]; exact Nat.ne_of_gt (bF_ (kz BK120.out)) : gb131 ≠ gb120)); replace BK120 := Aside0.mk (an_ (kz BK120.out) hb); clear hb hbox hg; have hnb50 := NB131_101.out; have hnc50 := NB101_131.out; have hnb51 := NB131_113.out; have hnc51 := NB113_131.out; have hnb52 := NB131_120.out; have hnc52 := NB120_131.out; obtain ⟨hcz53_0, hcz53_1, hcz53_2, hcz53_3⟩ := cz4_ BK131.out; obtain ⟨hfz53_0, hfz53_1, hfz53_2, hfz53_3⟩ := fz4_ BK131.out))
       (try simp only [Act.put, lsa_, ls0_, ls1_])
       have H := HC47.out
       clear HC47
       by_cases c54 : t130 = true
       rotate_left
       ·replace c54 := Bool.eq_false_iff.mpr c54
        subst c54
        have H1 : (some ((⟨#[]⟩ : ByteArray), (⟨#[]⟩ : ByteArray), 0, (⟨#[]⟩ : ByteArray), 0, 0, 0, 0, ([] : List (S66)), false)) = some (r1, r2, r3, r4, r5, r6, r7, r8, r9, r10) := by rw [if_neg (show ¬ (false = true) by decide)] at H; exact H
        clear H
        have H := H1
        clear H1
        simp only [Option.some.injEq, Prod.mk.injEq] at H
        obtain ⟨rfl, rfl, rfl, rfl, rfl, rfl, rfl, rfl, rfl, rfl⟩ := H
        have hnb66 := NB101_113.out
        have hnc66 := NB113_101.out
        have hnb67 := NB101_120.out
        have hnc67 := NB120_101.out
        have hnb68 := NB101_131.out
        have hnc68 := NB131_101.out
        obtain ⟨hcz69_0, hcz69_1, hcz69_2, hcz69_3, hcz69_4, hcz69_5, hcz69_6, hcz69_7, hcz69_8⟩ := cz9_ BK101.out
        obtain ⟨hfz69_0, hfz69_1, hfz69_2, hfz69_3, hfz69_4, hfz69_5, hfz69_6, hfz69_7, hfz69_8⟩ := fz9_ BK101.out
        go_wp2
        refine bodyPost_ret (bB_ rfl _ _ gb101 43 #[.string (⟨#[]⟩ : ByteArray), .string (⟨#[]⟩ : ByteArray), .int .i64 0, .string (⟨#[]⟩ : ByteArray), .int .i64 0, .int .i64 0, .int .i64 0, .int .i64 0, .slice none 0 0] (0, 0) _ rfl (by exact kj9_8 (kj9_7 (kj9_6 (kj9_5 (kj9_4 (kj9_3 (kj9_2 (kj9_1 (kj9_0 (kf (kf (kf (kf (kz BK101.out) NB101_131.out) NB101_131.out) NB101_131.out) NB101_131.out)))))))))) Tryz.underlying43 rfl (by kernel_rfl)) rfl ?_
        exact ⟨_, by first | rfl | (simp [*, ai_, ah_] <;> rfl), by first | exact Kd.R_nil _ _ _ _ _ | exact Kd.N_nil _ _ _ _ _ | exact Kd.V_nil _ _ _ _ _ | exact Kd.Q_nil _ _ _ _ _ | exact Kd.S_nil _ _ _ _ _, by repeat (first | (with_reducible first | exact HB.out | apply bA_ | apply bN_ | apply bD_ | refine aa_ ?_ GE101.out | refine aa_ ?_ GE113.out | refine aa_ ?_ GE120.out | refine aa_ ?_ GE131.out))⟩
       subst c54
       have H1 : (if x121008_2.length < 4398046511104 then (az_.l0 k2 a0 t102 y121 (y121.length : Int) (wrap64 (x70_2 + 1)) (rdOf ByteArray.empty t102 0) (rdOf ByteArray.empty t102 1) t106 t109 t110 t111 t115 t116 (x121008_2 ++ [(⟨t126, t127, t128, t129⟩ : S66)])) else (none)) = some (r1, r2, r3, r4, r5, r6, r7, r8, r9, r10) := by rw [if_pos rfl] at H; exact H
       clear H
       have H := H1
       clear H1
       by_cases c55 : x121008_2.length < 4398046511104
       rotate_left
       ·rw [if_neg c55] at H
        exact absurd H (by simp)
       rw [if_pos c55] at H
       have LMc55 := Aside0.mk c55
       clear c55
       obtain ⟨y132, hy132⟩ : ∃ y_ : List (S66), y_ = (x121008_2 ++ [(⟨t126, t127, t128, t129⟩ : S66)]) := ⟨_, rfl⟩
       replace H : (az_.l0 k2 a0 t102 y121 (y121.length : Int) (wrap64 (x70_2 + 1)) (rdOf ByteArray.empty t102 0) (rdOf ByteArray.empty t102 1) t106 t109 t110 t111 t115 t116 y132) = some (r1, r2, r3, r4, r5, r6, r7, r8, r9, r10) := by first | (rw [hy132]; with_reducible exact H) | (have H2_ := (Option.bind_some _ _).symm.trans H; rw [hy132]; with_reducible exact H2_) | (have H2_ := (Option.bind_some _ _).symm.trans H; with_reducible exact H2_) | with_reducible exact H | (rw [hy132]; exact H) | exact H
       have Ny132 := Aside0.mk hy132
       clear hy132
       have H' := Aside0.mk H
       clear H
       have hnb56 := NB120_101.out
       have hnc56 := NB101_120.out
       have hnb57 := NB120_113.out
       have hnc57 := NB113_120.out
       have hnb58 := NB120_131.out
       have hnc58 := NB131_120.out
       obtain ⟨hcz59_0, hcz59_1, hcz59_2, hcz59_3, hcz59_4, hcz59_5, hcz59_6, hcz59_7, hcz59_8⟩ := cz9_ BK120.out
       obtain ⟨hfz59_0, hfz59_1, hfz59_2, hfz59_3, hfz59_4, hfz59_5, hfz59_6, hfz59_7, hfz59_8⟩ := fz9_ BK120.out
       have hnb60 := NB131_101.out
       have hnc60 := NB101_131.out
       have hnb61 := NB131_113.out
       have hnc61 := NB113_131.out
       obtain ⟨hcz62_0, hcz62_1, hcz62_2, hcz62_3⟩ := cz4_ BK131.out
       obtain ⟨hfz62_0, hfz62_1, hfz62_2, hfz62_3⟩ := fz4_ BK131.out
       go_wp2_with (first | ((with_reducible refine cg_ (b := .append) (xs := #[.tmp 83, .tmp 85]) rfl ?_); at_builtin; refine Kd.R_append k66 (w0 := w) w.heap.size rfl (.tmp 83) (.tmp 85) 41 66 (.agg #[(.int .i64 0), (.int .i64 0), (.int .i64 0), (.int .i64 0)]) 32 rfl Tryz.underlying41 info66 rfl (by decide) (by omega) u121008 x121008_2 (⟨t126, t127, t128, t129⟩ : S66) [.int .i64 t126, .int .i64 t127, .int .i64 t128, .int .i64 t129] (fun k_ => k_ ≠ gb131) (fun _ => False) rfl (by first | (go_simp; done) | (go_simp; rfl)) ?aP (fun _ hk => hk.elim) ?aF ?aO ?aB ?aS ?aL ?_; (case aP => exact k66_mkM _ _ _ (⟨t126, t127, t128, t129⟩ : S66)); (case aB => exact (by repeat (first | (with_reducible first | exact HB.out | apply bA_ | apply bN_ | apply bD_ | refine aa_ ?_ GE101.out | refine aa_ ?_ GE113.out | refine aa_ ?_ GE120.out | refine aa_ ?_ GE131.out)))); (case aF => exact (fun k_ hk => Kd.freshB (g := gb131) (o := .cells #[.int .i64 t126, .int .i64 t127, .int .i64 t128, .int .i64 t129] 66 (0, 0)) (by exact kj4_3 (kj4_2 (kj4_1 (kj4_0 (kz BK131.out))))) k_ hk)); (case aO => exact (rz (Kd.bg_ (Kd.R_far (p := ⟨gb131, 3, none⟩) (Kd.R_far (p := ⟨gb131, 2, none⟩) (Kd.R_far (p := ⟨gb131, 1, none⟩) (Kd.R_far (p := ⟨gb131, 0, none⟩) (Kd.bg_ HO_121008.out (fun k_ hk => (⟨hk, hk.2⟩ : _ ∧ k_ ≠ gb131))) (fun _ hk => hk.2) (.int .i64 t126)) (fun _ hk => hk.2) (.int .i64 t127)) (fun _ hk => hk.2) (.int .i64 t128)) (fun _ hk => hk.2) (.int .i64 t129)) (fun _ hk => hk.1.2)))); (case aS => exact (ad_ (by repeat (first | (with_reducible first | exact HB.out | apply bA_ | apply bN_ | apply bD_ | refine aa_ ?_ GE101.out | refine aa_ ?_ GE113.out | refine aa_ ?_ GE120.out | refine aa_ ?_ GE131.out))))); (case aL => have := LMc55.out; omega); intro v133 w63 ho hb hg hat; rw [← Ny132.out] at ho; replace BK101 := Aside0.mk (co_ (g := gb101) (o := .cells #[.string x102000_2, .string x102001_2, .int .i64 x102002_2, .string x102003_2, .int .i64 x102004_2, .int .i64 x102005_2, .int .i64 x102006_2, .int .i64 x102007_2, .slice none 0 0] 43 (0, 0)) (by exact kf (kf (kf (kf (kz BK101.out) NB101_131.out) NB101_131.out) NB101_131.out) NB101_131.out) hg (Kd.R_ne HO_121008.out BK101.out (by decide))); replace BK113 := Aside0.mk (co_ (g := gb113) (o := .cells #[.string t109, .int .i64 t110, .int .i64 t111] 40 (0, 0)) (by exact kf (kf (kf (kf (kz BK113.out) NB113_131.out) NB113_131.out) NB113_131.out) NB113_131.out) hg (Kd.R_ne HO_121008.out BK113.out (by decide))); replace BK120 := Aside0.mk (co_ (g := gb120) (o := .cells #[.string (rdOf ByteArray.empty t102 0), .string (rdOf ByteArray.empty t102 1), .int .i64 t106, .string t109, .int .i64 t110, .int .i64 t111, .int .i64 t115, .int .i64 t116, u121008] 43 (0, 0)) (by exact kf (kf (kf (kf (kz BK120.out) NB120_131.out) NB120_131.out) NB120_131.out) NB120_131.out) hg (Kd.R_ne HO_121008.out BK120.out (by decide))); replace HB := Aside0.mk (hb); replace HR124 := Aside0.mk ((show Kd.C Kd.string w63 (some ad125) y121.length y121 from by rw [Ny121.out, KA42.out]; exact Kd.C_drop (m := 5) (c := co6) ((Kd.av_ (Kd.R_over' (rz (Kd.bg_ (Kd.R_far (p := ⟨gb131, 3, none⟩) (Kd.R_far (p := ⟨gb131, 2, none⟩) (Kd.R_far (p := ⟨gb131, 1, none⟩) (Kd.R_far (p := ⟨gb131, 0, none⟩) (Kd.bW_ HO_4.out BK131.out (by decide)) (fun _ hk => hk.2) (.int .i64 t126)) (fun _ hk => hk.2) (.int .i64 t127)) (fun _ hk => hk.2) (.int .i64 t128)) (fun _ hk => hk.2) (.int .i64 t129)) (fun _ h_ => h_.1))) (Kd.R_typed (rz (Kd.bg_ (Kd.R_far (p := ⟨gb131, 3, none⟩) (Kd.R_far (p := ⟨gb131, 2, none⟩) (Kd.R_far (p := ⟨gb131, 1, none⟩) (Kd.R_far (p := ⟨gb131, 0, none⟩) (Kd.bg_ HO_121008.out (fun k_ hk => (⟨hk, hk.2⟩ : _ ∧ k_ ≠ gb131))) (fun _ hk => hk.2) (.int .i64 t126)) (fun _ hk => hk.2) (.int .i64 t127)) (fun _ hk => hk.2) (.int .i64 t128)) (fun _ hk => hk.2) (.int .i64 t129)) (fun _ h_ => h_.1)))) (by decide) hg)).2.2) KL42.out ((Kd.av_ (Kd.R_over' (rz (Kd.bg_ (Kd.R_far (p := ⟨gb131, 3, none⟩) (Kd.R_far (p := ⟨gb131, 2, none⟩) (Kd.R_far (p := ⟨gb131, 1, none⟩) (Kd.R_far (p := ⟨gb131, 0, none⟩) (Kd.bW_ HO_4.out BK131.out (by decide)) (fun _ hk => hk.2) (.int .i64 t126)) (fun _ hk => hk.2) (.int .i64 t127)) (fun _ hk => hk.2) (.int .i64 t128)) (fun _ hk => hk.2) (.int .i64 t129)) (fun _ h_ => h_.1))) (Kd.R_typed (rz (Kd.bg_ (Kd.R_far (p := ⟨gb131, 3, none⟩) (Kd.R_far (p := ⟨gb131, 2, none⟩) (Kd.R_far (p := ⟨gb131, 1, none⟩) (Kd.R_far (p := ⟨gb131, 0, none⟩) (Kd.bg_ HO_121008.out (fun k_ hk => (⟨hk, hk.2⟩ : _ ∧ k_ ≠ gb131))) (fun _ hk => hk.2) (.int .i64 t126)) (fun _ hk => hk.2) (.int .i64 t127)) (fun _ hk => hk.2) (.int .i64 t128)) (fun _ hk => hk.2) (.int .i64 t129)) (fun _ h_ => h_.1)))) (by decide) hg)).2.1))); replace HO_4 := Aside0.mk (Kd.R_over' (rz (Kd.bg_ (Kd.R_far (p := ⟨gb131, 3, none⟩) (Kd.R_far (p := ⟨gb131, 2, none⟩) (Kd.R_far (p := ⟨gb131, 1, none⟩) (Kd.R_far (p := ⟨gb131, 0, none⟩) (Kd.bW_ HO_4.out BK131.out (by decide)) (fun _ hk => hk.2) (.int .i64 t126)) (fun _ hk => hk.2) (.int .i64 t127)) (fun _ hk => hk.2) (.int .i64 t128)) (fun _ hk => hk.2) (.int .i64 t129)) (fun _ h_ => h_.1))) (Kd.R_typed (rz (Kd.bg_ (Kd.R_far (p := ⟨gb131, 3, none⟩) (Kd.R_far (p := ⟨gb131, 2, none⟩) (Kd.R_far (p := ⟨gb131, 1, none⟩) (Kd.R_far (p := ⟨gb131, 0, none⟩) (Kd.bg_ HO_121008.out (fun k_ hk => (⟨hk, hk.2⟩ : _ ∧ k_ ≠ gb131))) (fun _ hk => hk.2) (.int .i64 t126)) (fun _ hk => hk.2) (.int .i64 t127)) (fun _ hk => hk.2) (.int .i64 t128)) (fun _ hk => hk.2) (.int .i64 t129)) (fun _ h_ => h_.1)))) (by decide) hg); replace BK131 := Aside0.mk (co_ (g := gb131) (o := .cells #[.int .i64 t126, .int .i64 t127, .int .i64 t128, .int .i64 t129] 66 (0, 0)) (by exact kj4_3 (kj4_2 (kj4_1 (kj4_0 (kz BK131.out))))) hg (Kd.R_away HO_121008.out (fun _ hk => hk.2))); have HO134 := Aside0.mk (ho); clear HO_121008; clear ho hb hg hat; obtain ⟨Ao64, co64, eo64⟩ := Kd.bv_ HO134.out; subst eo64; obtain ⟨hcz65_0, hcz65_1, hcz65_2, hcz65_3, hcz65_4, hcz65_5, hcz65_6, hcz65_7, hcz65_8⟩ := cz9_ BK120.out; obtain ⟨hfz65_0, hfz65_1, hfz65_2, hfz65_3, hfz65_4, hfz65_5, hfz65_6, hfz65_7, hfz65_8⟩ := fz9_ BK120.out))
       go_roundg k2
       case measure => have := HJ14.out; have := HK2.out; omega
       case rel => exact ⟨(wrap64 (x70_2 + 1)), (x102000_2), (x102001_2), (x102002_2), (x102003_2), (x102004_2), (x102005_2), (x102006_2), (x102007_2), (y132), (.slice Ao64 y132.length co64), (by first | rfl | (simp; done) | (simp [*]; done)), H', ⟨by have := HJ14.out; have := HK2.out; omega⟩, ⟨rz (Kd.bg_ (Kd.R_far (p := ⟨gb120, 8, none⟩) (Kd.bW_ HO_4.out BK120.out (by decide)) (fun _ hk => hk.2) (.slice Ao64 y132.length co64)) (fun _ hk => trivial))⟩, ⟨rz (Kd.bg_ (Kd.R_far (p := ⟨gb120, 8, none⟩) (Kd.bW_ HO134.out BK120.out (by decide)) (fun _ hk => hk.2) (.slice Ao64 y132.length co64)) (fun _ hk => trivial))⟩, ⟨by exact kf (kz BK101.out) NB101_120.out⟩, ⟨by exact kf (kz BK113.out) NB113_120.out⟩, ⟨by exact kj9_8 (kz BK120.out)⟩, ⟨by rw [Ny121.out, KA42.out]; exact Kd.C_drop (m := 5) (c := co6) ((Kd.av_ (rz (Kd.bg_ (Kd.R_far (p := ⟨gb120, 8, none⟩) (Kd.bW_ HO_4.out BK120.out (by decide)) (fun _ hk => hk.2) (.slice Ao64 y132.length co64)) (fun _ h_ => h_.1)))).2.2) KL42.out ((Kd.av_ HO_4.out).2.1)⟩, ⟨by repeat (first | (with_reducible first | exact HB.out | apply bA_ | apply bN_ | apply bD_ | refine aa_ ?_ GE101.out | refine aa_ ?_ GE113.out | refine aa_ ?_ GE120.out | refine aa_ ?_ GE131.out))⟩⟩
    subst c24
    have H1 : (some ((⟨#[]⟩ : ByteArray), (⟨#[]⟩ : ByteArray), 0, (⟨#[]⟩ : ByteArray), 0, 0, 0, 0, ([] : List (S66)), false)) = some (r1, r2, r3, r4, r5, r6, r7, r8, r9, r10) := by rw [if_pos rfl] at H; exact H
    clear H
    have H := H1
    clear H1
    simp only [Option.some.injEq, Prod.mk.injEq] at H
    obtain ⟨rfl, rfl, rfl, rfl, rfl, rfl, rfl, rfl, rfl, rfl⟩ := H
    have hnb25 := NB101_113.out
    have hnc25 := NB113_101.out
    obtain ⟨hcz26_0, hcz26_1, hcz26_2, hcz26_3, hcz26_4, hcz26_5, hcz26_6, hcz26_7, hcz26_8⟩ := cz9_ BK101.out
    obtain ⟨hfz26_0, hfz26_1, hfz26_2, hfz26_3, hfz26_4, hfz26_5, hfz26_6, hfz26_7, hfz26_8⟩ := fz9_ BK101.out
    go_wp2
    refine bodyPost_ret (bB_ rfl _ _ gb101 43 #[.string (⟨#[]⟩ : ByteArray), .string (⟨#[]⟩ : ByteArray), .int .i64 0, .string (⟨#[]⟩ : ByteArray), .int .i64 0, .int .i64 0, .int .i64 0, .int .i64 0, .slice none 0 0] (0, 0) _ rfl (by exact kj9_8 (kj9_7 (kj9_6 (kj9_5 (kj9_4 (kj9_3 (kj9_2 (kj9_1 (kj9_0 (kz BK101.out)))))))))) Tryz.underlying43 rfl (by kernel_rfl)) rfl ?_
    exact ⟨_, by first | rfl | (simp [*, ai_, ah_] <;> rfl), by first | exact Kd.R_nil _ _ _ _ _ | exact Kd.N_nil _ _ _ _ _ | exact Kd.V_nil _ _ _ _ _ | exact Kd.Q_nil _ _ _ _ _ | exact Kd.S_nil _ _ _ _ _, by repeat (first | (with_reducible first | exact HB.out | apply bA_ | apply bN_ | apply bD_ | refine aa_ ?_ GE101.out | refine aa_ ?_ GE113.out))⟩
 rw [if_pos c7] at H
 have c7b0 : decide ((t102.length : Int) < 5) = true := decide_eq_true c7
 have c7b1 : decide (t102.length < 5) = true := decide_eq_true (by omega)
 clear c7
 (first | rw [c7b0] | (simp only [i64_w, i32_w]; rw [c7b0]) | (simp only [c7b1, Bool.not_true, Bool.not_false]) | (simp only [c7b0, Bool.not_true, Bool.not_false]) | skip)
 simp only [Option.some.injEq, Prod.mk.injEq] at H
 obtain ⟨rfl, rfl, rfl, rfl, rfl, rfl, rfl, rfl, rfl, rfl⟩ := H
 obtain ⟨hcz8_0, hcz8_1, hcz8_2, hcz8_3, hcz8_4, hcz8_5, hcz8_6, hcz8_7, hcz8_8⟩ := cz9_ BK101.out
 obtain ⟨hfz8_0, hfz8_1, hfz8_2, hfz8_3, hfz8_4, hfz8_5, hfz8_6, hfz8_7, hfz8_8⟩ := fz9_ BK101.out
 go_wp2
 refine bodyPost_ret (bB_ rfl _ _ gb101 43 #[.string (⟨#[]⟩ : ByteArray), .string (⟨#[]⟩ : ByteArray), .int .i64 0, .string (⟨#[]⟩ : ByteArray), .int .i64 0, .int .i64 0, .int .i64 0, .int .i64 0, .slice none 0 0] (0, 0) _ rfl (by exact kj9_8 (kj9_7 (kj9_6 (kj9_5 (kj9_4 (kj9_3 (kj9_2 (kj9_1 (kj9_0 (kz BK101.out)))))))))) Tryz.underlying43 rfl (by kernel_rfl)) rfl ?_
 exact ⟨_, by first | rfl | (simp [*, ai_, ah_] <;> rfl), by first | exact Kd.R_nil _ _ _ _ _ | exact Kd.N_nil _ _ _ _ _ | exact Kd.V_nil _ _ _ _ _ | exact Kd.Q_nil _ _ _ _ _ | exact Kd.S_nil _ _ _ _ _, by repeat (first | (with_reducible first | exact HB.out | apply bA_ | apply bN_ | apply bD_ | refine aa_ ?_ GE101.out))⟩
def aB_.l0 : Nat → List (S43) → List (S38) → Int → Int → Option ((List (S43)) × Int)
 | 0, _, _, _, _ => none
 | k + 1, x4, x13, x14, x15 => if x15 < x14 then (if 0 ≤ x15 then (if x15 < (x13.length : Int) then (if ((ag_ x13 x15).f0).toList = ([108, 101, 97, 102] : List UInt8) then ((az_.f k ((ag_ x13 x15).f2)).bind fun bt107 => (if bt107.2.2.2.2.2.2.2.2.2 = true then (if bt107.1.toList = ((ag_ x13 x15).f1).toList then (if x4.length < 1256584717458 then (aB_.l0 k (x4 ++ [(⟨bt107.1, bt107.2.1, bt107.2.2.1, (⟨bt107.2.2.2.1, bt107.2.2.2.2.1, bt107.2.2.2.2.2.1⟩ : S40), bt107.2.2.2.2.2.2.1, bt107.2.2.2.2.2.2.2.1, bt107.2.2.2.2.2.2.2.2.1⟩ : S43)]) x13 x14 (wrap64 (x15 + 1))) else (none)) else (some (([] : List (S43)), 6))) else (some (([] : List (S43)), 9)))) else (aB_.l0 k x4 x13 x14 (wrap64 (x15 + 1)))) else (none)) else (none)) else (if (x4.length : Int) > 16 then (some (([] : List (S43)), 5)) else (some (x4, 0)))
def aB_.f (k : Nat) (l0 : List (S38)) : Option ((List (S43)) × Int) := (aA_.f k l0).bind fun t101 => (if t101 = true then (aB_.l0 k (([] : List (S43))) l0 (l0.length : Int) 0) else (some (([] : List (S43)), 1)))
set_option maxHeartbeats 8000000 in
set_option maxRecDepth 100000 in
theorem aB_.calls (k : Nat) (A0 : Option Addr) (c0 : Nat) (l0 : List (S38)) (r1 : List (S43)) (r2 : Int) (w : World) (hr0 : Kd.C k38 w A0 l0.length l0) (hc0 : l0.length ≤ c0) (hTab_ : Tab_ w) (h : aB_.f k l0 = some (r1, r2)) :
  Calls Tryz.prog 7 #[.slice A0 l0.length c0] w fun e w' => ∃ v0_ : Value, e = .returned (.tuple #[v0_, .int .i64 r2]) ∧ Kd.S k43 43 w' w.heap.size (fun _ => True) v0_ r1 ∧ Below w.heap.size w w' := by
 have hu38 := Tryz.underlying38
 have hu43 := Tryz.underlying43
 have HTab_ := Aside0.mk hTab_
 clear hTab_
 have HR0 := Aside0.mk hr0
 have HC0 := Aside0.mk hc0
 clear hr0 hc0
 have HB := Aside0.mk (Below.refl w.heap.size w)
 have H : ((aA_.f k l0).bind fun t101 => (if t101 = true then (aB_.l0 k (([] : List (S43))) l0 (l0.length : Int) 0) else (some (([] : List (S43)), 1)))) = some (r1, r2) := h
 clear h
 replace H := Option.bind_eq_some_iff.mp H
 obtain ⟨t101, A20, H⟩ := H
 (try dsimp only at H)
 have A2 := Aside0.mk A20
 clear A20
 have HC3 := Aside0.mk H
 clear H
 go_enter Tryz.func7, Tryz.ntmps7
 go_upto_if 11 with (first | ((with_reducible refine af_ (f := 17) rfl ?_); refine aJ_ (some 10) rfl rfl Tryz.func17 (by kernel_rfl) rfl #[.slice A0 l0.length c0] rfl (by first | rfl | (simp only [lma_, lmc_, lmn_]; first | done | rfl)) ?_; (with_reducible refine (aA_.calls k _ _ l0 t101 _ ?side1 ?side2 A2.out).mono ?_); (case side1 => exact cz HR0.out); (case side2 => exact HC0.out); rintro e w4 ⟨rfl, hb⟩; refine ⟨_, rfl, ?_⟩; replace HB := Aside0.mk (ac_ (bz HB.out) hb); (try clear hb)))
 (try simp only [Act.put, lsa_, ls0_, ls1_])
 have H := HC3.out
 clear HC3
 by_cases c5 : t101 = true
 rotate_left
 ·replace c5 := Bool.eq_false_iff.mpr c5
  subst c5
  have H1 : (some (([] : List (S43)), 1)) = some (r1, r2) := by rw [if_neg (show ¬ (false = true) by decide)] at H; exact H
  clear H
  have H := H1
  clear H1
  simp only [Option.some.injEq, Prod.mk.injEq] at H
  obtain ⟨rfl, rfl⟩ := H
  go_wp2
  go_ret2
  exact ⟨_, by first | rfl | (simp [*, ai_, ah_] <;> rfl), by first | exact Kd.S_nil _ _ _ _ _ | exact Kd.N_nil _ _ _ _ _ | exact Kd.V_nil _ _ _ _ _ | exact Kd.Q_nil _ _ _ _ _ | exact Kd.R_nil _ _ _ _ _, bz HB.out⟩
 subst c5
 have H1 : (aB_.l0 k (([] : List (S43))) l0 (l0.length : Int) 0) = some (r1, r2) := by rw [if_pos rfl] at H; exact H
 clear H
 have H := H1
 clear H1
 obtain ⟨y102, hy102⟩ : ∃ y_ : List (S43), y_ = (([] : List (S43))) := ⟨_, rfl⟩
 replace H : (aB_.l0 k y102 l0 (l0.length : Int) 0) = some (r1, r2) := by first | (rw [hy102]; with_reducible exact H) | (have H2_ := (Option.bind_some _ _).symm.trans H; rw [hy102]; with_reducible exact H2_) | (have H2_ := (Option.bind_some _ _).symm.trans H; with_reducible exact H2_) | with_reducible exact H | (rw [hy102]; exact H) | exact H
 have Ny102 := Aside0.mk hy102
 clear hy102
 have H' := Aside0.mk H
 clear H
 go_wp2_with (first | ((with_reducible refine aI_ (N := 12) rfl ?_); refine Kd.S_lit k43 _ 43 ?hg (N := 12) ?hd (xs := ([] : List (S43))) (inner := []) (ok := fun _ => True) (okp := fun _ => True) ?hr ?hp (fun _ hk => hk) trivial (Below.refl _ _) (Nat.le_refl _) (by simp) ?_; (case hd => rfl); (case hg => rfl); (case hr => (go_simp; try rfl)); (case hp => exact (Reps.none _ _)); intro v103 w6 ho7 hb hg_ hnew_; clear hg_ hnew_; (first | rw [← Ny102.out] at ho7 | (simp only [Int.reduceToNat] at ho7; rw [← Ny102.out] at ho7)); have HO104 := Aside0.mk (Kd.S_lower ho7 (ad_ (bz HB.out))); replace HB := Aside0.mk (ac_ (bz HB.out) hb); clear hb ho7))
 (try simp only [Act.put, lsa_, ls0_, ls1_])
 go_loopg [4, 15] k (fun kq v4 v15 w' => ∃ (x4_1 : List (S43)) (x15_1 : Int), v15 = .int .i64 x15_1 ∧ Aside0 (aB_.l0 kq x4_1 l0 (l0.length : Int) x15_1 = some (r1, r2)) ∧ Aside0 (kq ≤ k) ∧ Aside0 (Kd.S k43 43 w' w.heap.size (fun _ => True) v4 x4_1) ∧ Aside0 (Below w.heap.size w w'))
 case atStart => exact ⟨(y102), (0), (by first | rfl | (simp; done) | (simp [*]; done)), H', ⟨Nat.le_refl _⟩, ⟨sz HO104.out⟩, ⟨bz HB.out⟩⟩
 case round =>
  clear H'
  obtain ⟨x4_1, x15_1, rfl, HA, HK1, HO_4, HB⟩ := hrel
  cases gk with
  | zero => exact absurd HA.out (by simp [aB_.l0])
  | succ k1 =>
   have H := HA.out
   clear HA
   simp only [aB_.l0] at H
   by_cases c8 : x15_1 < (l0.length : Int)
   rotate_left
   ·rw [if_neg c8] at H
    have c8b0 : decide (x15_1 < (l0.length : Int)) = false := decide_eq_false c8
    clear c8
    (first | rw [c8b0] | (simp only [i64_w, i32_w]; rw [c8b0]) | (simp only [c8b1, Bool.not_true, Bool.not_false]) | (simp only [c8b0, Bool.not_true, Bool.not_false]) | skip)
    by_cases c36 : (x4_1.length : Int) > 16
    rotate_left
    ·rw [if_neg c36] at H
     have c36b0 : decide (16 < (x4_1.length : Int)) = false := decide_eq_false c36
     have c36b1 : decide (16 < x4_1.length) = false := decide_eq_false (by omega)
     clear c36
     simp only [Option.some.injEq, Prod.mk.injEq] at H
     obtain ⟨rfl, rfl⟩ := H
     obtain ⟨Ao38, co38, eo38⟩ := Kd.cA_ HO_4.out
     subst eo38
     go_wp2
     go_ret2
     exact ⟨_, by first | rfl | (simp [*, ai_, ah_] <;> rfl), sz HO_4.out, bz HB.out⟩
    rw [if_pos c36] at H
    have c36b0 : decide (16 < (x4_1.length : Int)) = true := decide_eq_true c36
    have c36b1 : decide (16 < x4_1.length) = true := decide_eq_true (by omega)
    clear c36
    simp only [Option.some.injEq, Prod.mk.injEq] at H
    obtain ⟨rfl, rfl⟩ := H
    obtain ⟨Ao37, co37, eo37⟩ := Kd.cA_ HO_4.out
    subst eo37
    go_wp2
    go_ret2
    exact ⟨_, by first | rfl | (simp [*, ai_, ah_] <;> rfl), by first | exact Kd.S_nil _ _ _ _ _ | exact Kd.N_nil _ _ _ _ _ | exact Kd.V_nil _ _ _ _ _ | exact Kd.Q_nil _ _ _ _ _ | exact Kd.R_nil _ _ _ _ _, bz HB.out⟩
   rw [if_pos c8] at H
   have c8b0 : decide (x15_1 < (l0.length : Int)) = true := decide_eq_true c8
   clear c8
   (first | rw [c8b0] | (simp only [i64_w, i32_w]; rw [c8b0]) | (simp only [c8b1, Bool.not_true, Bool.not_false]) | (simp only [c8b0, Bool.not_true, Bool.not_false]) | skip)
   by_cases c9 : 0 ≤ x15_1
   rotate_left
   ·rw [if_neg c9] at H
    exact absurd H (by simp)
   rw [if_pos c9] at H
   have c9b0 : decide (0 ≤ x15_1) = true := decide_eq_true c9
   clear c9
   by_cases c10 : x15_1 < (l0.length : Int)
   rotate_left
   ·rw [if_neg c10] at H
    exact absurd H (by simp)
   rw [if_pos c10] at H
   have c10b0 : decide (x15_1 < (l0.length : Int)) = true := decide_eq_true c10
   clear c10
   have HC11 := Aside0.mk H
   clear H
   have p105 : 0 ≤ (x15_1 : Int) := of_decide_eq_true (by assumption)
   have q105 : x15_1 < (l0.length : Int) := of_decide_eq_true (by assumption)
   obtain ⟨ad105, e105, hx105_0, hx105_1, hx105_2⟩ := bX_ HR0.out x15_1 p105 q105
   cases e105
   replace hx105_0 := bu_ HB.out hx105_0
   replace hx105_1 := bu_ HB.out hx105_1
   replace hx105_2 := bu_ HB.out hx105_2
   replace p105 := eq_true p105
   replace q105 := eq_true q105
   go_upto_if 21 with (first | ((with_reducible refine aI_ (N := 6) rfl ?_); refine aR_ ?hg (N := 6) ?hd (cs := #[.string (⟨#[]⟩ : ByteArray), .string (⟨#[]⟩ : ByteArray), .string (⟨#[]⟩ : ByteArray)]) (t := 38) ?hr ?_; (case hd => rfl); (case hg => rfl); (case hr => (go_simp; try rfl)); intro gb106 hg w12 hbox hb; replace HO_4 := Aside0.mk (Kd.bO_ (sz HO_4.out) hb); have BK106 := Aside0.mk (hbox); have GW106 := Aside0.mk ((by rw [hg]; exact (ad_ (bz HB.out)) : w.heap.size ≤ gb106)); have GE106 := Aside0.mk ((by rw [hg]; exact (ad_ (bz HB.out)) : w.heap.size ≤ gb106)); replace HB := Aside0.mk (ac_ (bz HB.out) hb); clear hb hbox hg; obtain ⟨hcz13_0, hcz13_1, hcz13_2⟩ := cz3_ BK106.out; obtain ⟨hfz13_0, hfz13_1, hfz13_2⟩ := fz3_ BK106.out) | ((with_reducible refine bJ_ (t := 38) (p := 6) rfl ?_); refine by_ (t := 38) (p := 6) (v := ?vo_w14) (w1 := (((w12.setCell ⟨gb106, 0, none⟩ (.string ((ag_ l0 x15_1).f0))).setCell ⟨gb106, 1, none⟩ (.string ((ag_ l0 x15_1).f1))).setCell ⟨gb106, 2, none⟩ (.string ((ag_ l0 x15_1).f2)))) ?hg ?ho ?hn ?hr ?_; (case ho => rfl); (case hg => rfl); (case hn => rfl); (case hr => (go_simp; try rfl)); intro w14 hw; replace HO_4 : Aside0 (Kd.S k43 43 w14 w.heap.size (fun _ => True) u4 x4_1) := ⟨(by rw [hw]; exact (sz (Kd.bY_ (Kd.S_far (p := ⟨gb106, 2, none⟩) (Kd.S_far (p := ⟨gb106, 1, none⟩) (Kd.S_far (p := ⟨gb106, 0, none⟩) (Kd.S_types HO_4.out BK106.out (by decide)) (fun _ hk => hk.2) (.string ((ag_ l0 x15_1).f0))) (fun _ hk => hk.2) (.string ((ag_ l0 x15_1).f1))) (fun _ hk => hk.2) (.string ((ag_ l0 x15_1).f2))) (fun _ hk => trivial))))⟩; replace BK106 : Aside0 (w14.heap[gb106]? = some (.cells #[.string ((ag_ l0 x15_1).f0), .string ((ag_ l0 x15_1).f1), .string ((ag_ l0 x15_1).f2)] 38 (0, 0))) := ⟨(by rw [hw]; exact (by exact kj3_2 (kj3_1 (kj3_0 (kz BK106.out)))))⟩; replace HB : Aside0 (Below w.heap.size w w14) := ⟨(by rw [hw]; exact (by repeat (first | (with_reducible first | exact HB.out | apply bA_ | apply bN_ | apply bD_ | refine aa_ ?_ GE106.out))))⟩; clear hw; obtain ⟨hcz15_0, hcz15_1, hcz15_2⟩ := cz3_ BK106.out; obtain ⟨hfz15_0, hfz15_1, hfz15_2⟩ := fz3_ BK106.out))
   (try simp only [Act.put, lsa_, ls0_, ls1_])
   have H := HC11.out
   clear HC11
   by_cases c16 : ((ag_ l0 x15_1).f0).toList = ([108, 101, 97, 102] : List UInt8)
   rotate_left
   ·rw [if_neg c16] at H
    have c16b0 : (((ag_ l0 x15_1).f0).toList == ([108, 101, 97, 102] : List UInt8)) = false := beq_eq_false_iff_ne.mpr c16
    have c16b1 : (((ag_ l0 x15_1).f0).toList != ([108, 101, 97, 102] : List UInt8)) = true := bne_iff_ne.mpr c16
    (first | rw [c16b0] | (simp only [i64_w, i32_w]; rw [c16b0]) | (simp only [c16b1, Bool.not_true, Bool.not_false]) | (simp only [c16b0, Bool.not_true, Bool.not_false]) | skip)
    have H' := Aside0.mk H
    clear H
    go_wp2
    go_roundg k1
    case measure => have := HK1.out; omega
    case rel => exact ⟨(x4_1), (wrap64 (x15_1 + 1)), (by first | rfl | (simp; done) | (simp [*]; done)), H', ⟨by have := HK1.out; omega⟩, ⟨sz HO_4.out⟩, ⟨by repeat (first | (with_reducible first | exact HB.out | apply bA_ | apply bN_ | apply bD_ | refine aa_ ?_ GE106.out))⟩⟩
   rw [if_pos c16] at H
   have c16b0 : (((ag_ l0 x15_1).f0).toList == ([108, 101, 97, 102] : List UInt8)) = true := beq_iff_eq.mpr c16
   have c16b1 : (((ag_ l0 x15_1).f0).toList != ([108, 101, 97, 102] : List UInt8)) = false := bne_eq_false_iff_eq.mpr c16
   clear c16
   (first | rw [c16b0] | (simp only [i64_w, i32_w]; rw [c16b0]) | (simp only [c16b1, Bool.not_true, Bool.not_false]) | (simp only [c16b0, Bool.not_true, Bool.not_false]) | skip)
   replace H := Option.bind_eq_some_iff.mp H
   obtain ⟨⟨t107, t108, t109, t110, t111, t112, t113, t114, t115, t118⟩, A170, H⟩ := H
   (try dsimp only at H)
   have A17 := Aside0.mk A170
   clear A170
   have HC18 := Aside0.mk H
   clear H
   obtain ⟨hcz19_0, hcz19_1, hcz19_2⟩ := cz3_ BK106.out
   obtain ⟨hfz19_0, hfz19_1, hfz19_2⟩ := fz3_ BK106.out
   go_upto_if 28 with (first | ((with_reducible refine af_ (f := 18) rfl ?_); refine aJ_ (some 25) rfl rfl Tryz.func18 (by kernel_rfl) rfl #[.string ((ag_ l0 x15_1).f2)] rfl (by first | rfl | (simp only [lma_, lmc_, lmn_]; first | done | rfl)) ?_; (with_reducible refine (az_.calls k1 ((ag_ l0 x15_1).f2) t107 t108 t109 t110 t111 t112 t113 t114 t115 t118 _ ?side1 A17.out).mono ?_); (case side1 => exact bc_ HTab_.out (by repeat (first | (with_reducible first | exact HB.out | apply bA_ | apply bN_ | apply bD_ | refine aa_ ?_ GE106.out)))); rintro e w20 ⟨v116, rfl, ho0, hb⟩; refine ⟨_, rfl, ?_⟩; replace HO_4 := Aside0.mk (Kd.S_elder' (sz HO_4.out) (Kd.bI_ ho0) hb); have HO117 := Aside0.mk (Kd.bz_ ho0 (ad_ (by repeat (first | (with_reducible first | exact HB.out | apply bA_ | apply bN_ | apply bD_ | refine aa_ ?_ GE106.out))))); replace BK106 := Aside0.mk (an_ (kz BK106.out) hb); replace HB := Aside0.mk (ac_ (by repeat (first | (with_reducible first | exact HB.out | apply bA_ | apply bN_ | apply bD_ | refine aa_ ?_ GE106.out))) hb); (try clear hb); (try clear ho0)) | ((with_reducible refine aI_ (N := 7) rfl ?_); refine aR_ ?hg (N := 7) ?hd (cs := #[.string (⟨#[]⟩ : ByteArray), .string (⟨#[]⟩ : ByteArray), .int .i64 0, .string (⟨#[]⟩ : ByteArray), .int .i64 0, .int .i64 0, .int .i64 0, .int .i64 0, .slice none 0 0]) (t := 43) ?hr ?_; (case hd => rfl); (case hg => rfl); (case hr => (go_simp; try rfl)); intro gb119 hg w21 hbox hb; replace HO_4 := Aside0.mk (Kd.bO_ (Kd.S_elderB (sz HO_4.out) gb119 (Nat.le_of_eq hg.symm)) hb); replace HO117 := Aside0.mk (Kd.aV_ (rz HO117.out) hb); have BK119 := Aside0.mk (hbox); have GW119 := Aside0.mk ((by rw [hg]; exact (ad_ (by repeat (first | (with_reducible first | exact HB.out | apply bA_ | apply bN_ | apply bD_ | refine aa_ ?_ GE106.out)))) : w.heap.size ≤ gb119)); have GE119 := Aside0.mk ((by rw [hg]; exact (ad_ (by repeat (first | (with_reducible first | exact HB.out | apply bA_ | apply bN_ | apply bD_ | refine aa_ ?_ GE106.out)))) : w.heap.size ≤ gb119)); replace HB := Aside0.mk (ac_ (by repeat (first | (with_reducible first | exact HB.out | apply bA_ | apply bN_ | apply bD_ | refine aa_ ?_ GE106.out))) hb); have NB106_119 := Aside0.mk ((by rw [hg]; exact Nat.ne_of_lt (bF_ (kz BK106.out)) : gb106 ≠ gb119)); have NB119_106 := Aside0.mk ((by rw [hg]; exact Nat.ne_of_gt (bF_ (kz BK106.out)) : gb119 ≠ gb106)); replace BK106 := Aside0.mk (an_ (kz BK106.out) hb); clear hb hbox hg; have hnb22 := NB119_106.out; have hnc22 := NB106_119.out; obtain ⟨hcz23_0, hcz23_1, hcz23_2, hcz23_3, hcz23_4, hcz23_5, hcz23_6, hcz23_7, hcz23_8⟩ := cz9_ BK119.out; obtain ⟨hfz23_0, hfz23_1, hfz23_2, hfz23_3, hfz23_4, hfz23_5, hfz23_6, hfz23_7, hfz23_8⟩ := fz9_ BK119.out; obtain ⟨Ao24, co24, eo24⟩ := Kd.bv_ HO117.out; subst eo24) | ((with_reducible refine bJ_ (t := 43) (p := 7) rfl ?_); refine by_ (t := 43) (p := 7) (v := ?vo_w25) (w1 := (((((((((w21.setCell ⟨gb119, 0, none⟩ (.string t107)).setCell ⟨gb119, 1, none⟩ (.string t108)).setCell ⟨gb119, 2, none⟩ (.int .i64 t109)).setCell ⟨gb119, 3, none⟩ (.string t110)).setCell ⟨gb119, 4, none⟩ (.int .i64 t111)).setCell ⟨gb119, 5, none⟩ (.int .i64 t112)).setCell ⟨gb119, 6, none⟩ (.int .i64 t113)).setCell ⟨gb119, 7, none⟩ (.int .i64 t114)).setCell ⟨gb119, 8, none⟩ (.slice Ao24 t115.length co24))) ?hg ?ho ?hn ?hr ?_; (case ho => rfl); (case hg => rfl); (case hn => rfl); (case hr => (go_simp; try rfl)); intro w25 hw; replace HO_4 : Aside0 (Kd.S k43 43 w25 w.heap.size (fun k_ => some k_ ≠ (.slice Ao24 t115.length co24 : Value).ownBlock ∧ k_ ≠ gb119) u4 x4_1) := ⟨(by rw [hw]; exact (sz (Kd.bY_ (Kd.S_far (p := ⟨gb119, 8, none⟩) (Kd.S_far (p := ⟨gb119, 7, none⟩) (Kd.S_far (p := ⟨gb119, 6, none⟩) (Kd.S_far (p := ⟨gb119, 5, none⟩) (Kd.S_far (p := ⟨gb119, 4, none⟩) (Kd.S_far (p := ⟨gb119, 3, none⟩) (Kd.S_far (p := ⟨gb119, 2, none⟩) (Kd.S_far (p := ⟨gb119, 1, none⟩) (Kd.S_far (p := ⟨gb119, 0, none⟩) (Kd.bY_ HO_4.out (fun k_ hk => (⟨hk, hk.2⟩ : _ ∧ k_ ≠ gb119))) (fun _ hk => hk.2) (.string t107)) (fun _ hk => hk.2) (.string t108)) (fun _ hk => hk.2) (.int .i64 t109)) (fun _ hk => hk.2) (.string t110)) (fun _ hk => hk.2) (.int .i64 t111)) (fun _ hk => hk.2) (.int .i64 t112)) (fun _ hk => hk.2) (.int .i64 t113)) (fun _ hk => hk.2) (.int .i64 t114)) (fun _ hk => hk.2) (.slice Ao24 t115.length co24)) (fun _ hk => ⟨hk.1.1.2, hk.1.2⟩))))⟩; replace HO117 : Aside0 (Kd.R k66 66 w25 w.heap.size (fun _ => True) (.slice Ao24 t115.length co24) t115) := ⟨(by rw [hw]; exact (rz (Kd.bg_ (Kd.R_far (p := ⟨gb119, 8, none⟩) (Kd.R_far (p := ⟨gb119, 7, none⟩) (Kd.R_far (p := ⟨gb119, 6, none⟩) (Kd.R_far (p := ⟨gb119, 5, none⟩) (Kd.R_far (p := ⟨gb119, 4, none⟩) (Kd.R_far (p := ⟨gb119, 3, none⟩) (Kd.R_far (p := ⟨gb119, 2, none⟩) (Kd.R_far (p := ⟨gb119, 1, none⟩) (Kd.R_far (p := ⟨gb119, 0, none⟩) (Kd.bW_ HO117.out BK119.out (by decide)) (fun _ hk => hk.2) (.string t107)) (fun _ hk => hk.2) (.string t108)) (fun _ hk => hk.2) (.int .i64 t109)) (fun _ hk => hk.2) (.string t110)) (fun _ hk => hk.2) (.int .i64 t111)) (fun _ hk => hk.2) (.int .i64 t112)) (fun _ hk => hk.2) (.int .i64 t113)) (fun _ hk => hk.2) (.int .i64 t114)) (fun _ hk => hk.2) (.slice Ao24 t115.length co24)) (fun _ hk => trivial))))⟩; replace BK106 : Aside0 (w25.heap[gb106]? = some (.cells #[.string ((ag_ l0 x15_1).f0), .string ((ag_ l0 x15_1).f1), .string ((ag_ l0 x15_1).f2)] 38 (0, 0))) := ⟨(by rw [hw]; exact (by exact kf (kf (kf (kf (kf (kf (kf (kf (kf (kz BK106.out) NB106_119.out) NB106_119.out) NB106_119.out) NB106_119.out) NB106_119.out) NB106_119.out) NB106_119.out) NB106_119.out) NB106_119.out))⟩; replace BK119 : Aside0 (w25.heap[gb119]? = some (.cells #[.string t107, .string t108, .int .i64 t109, .string t110, .int .i64 t111, .int .i64 t112, .int .i64 t113, .int .i64 t114, .slice Ao24 t115.length co24] 43 (0, 0))) := ⟨(by rw [hw]; exact (by exact kj9_8 (kj9_7 (kj9_6 (kj9_5 (kj9_4 (kj9_3 (kj9_2 (kj9_1 (kj9_0 (kz BK119.out)))))))))))⟩; replace HB : Aside0 (Below w.heap.size w w25) := ⟨(by rw [hw]; exact (by repeat (first | (with_reducible first | exact HB.out | apply bA_ | apply bN_ | apply bD_ | refine aa_ ?_ GE106.out | refine aa_ ?_ GE119.out))))⟩; clear hw))
   (try simp only [Act.put, lsa_, ls0_, ls1_])
   have H := HC18.out
   clear HC18
   by_cases c26 : t118 = true
   rotate_left
   ·replace c26 := Bool.eq_false_iff.mpr c26
    subst c26
    have H1 : (some (([] : List (S43)), 9)) = some (r1, r2) := by rw [if_neg (show ¬ (false = true) by decide)] at H; exact H
    clear H
    have H := H1
    clear H1
    simp only [Option.some.injEq, Prod.mk.injEq] at H
    obtain ⟨rfl, rfl⟩ := H
    go_wp2
    go_ret2
    exact ⟨_, by first | rfl | (simp [*, ai_, ah_] <;> rfl), by first | exact Kd.S_nil _ _ _ _ _ | exact Kd.N_nil _ _ _ _ _ | exact Kd.V_nil _ _ _ _ _ | exact Kd.Q_nil _ _ _ _ _ | exact Kd.R_nil _ _ _ _ _, by repeat (first | (with_reducible first | exact HB.out | apply bA_ | apply bN_ | apply bD_ | refine aa_ ?_ GE106.out | refine aa_ ?_ GE119.out))⟩
   subst c26
   have H1 : (if t107.toList = ((ag_ l0 x15_1).f1).toList then (if x4_1.length < 1256584717458 then (aB_.l0 k1 (x4_1 ++ [(⟨t107, t108, t109, (⟨t110, t111, t112⟩ : S40), t113, t114, t115⟩ : S43)]) l0 (l0.length : Int) (wrap64 (x15_1 + 1))) else (none)) else (some (([] : List (S43)), 6))) = some (r1, r2) := by rw [if_pos rfl] at H; exact H
   clear H
   have H := H1
   clear H1
   by_cases c27 : t107.toList = ((ag_ l0 x15_1).f1).toList
   rotate_left
   ·rw [if_neg c27] at H
    have c27b0 : (t107.toList == ((ag_ l0 x15_1).f1).toList) = false := beq_eq_false_iff_ne.mpr c27
    have c27b1 : (t107.toList != ((ag_ l0 x15_1).f1).toList) = true := bne_iff_ne.mpr c27
    (first | rw [c27b0] | (simp only [i64_w, i32_w]; rw [c27b0]) | (simp only [c27b1, Bool.not_true, Bool.not_false]) | (simp only [c27b0, Bool.not_true, Bool.not_false]) | skip)
    simp only [Option.some.injEq, Prod.mk.injEq] at H
    obtain ⟨rfl, rfl⟩ := H
    have hnb33 := NB119_106.out
    have hnc33 := NB106_119.out
    obtain ⟨hcz34_0, hcz34_1, hcz34_2, hcz34_3, hcz34_4, hcz34_5, hcz34_6, hcz34_7, hcz34_8⟩ := cz9_ BK119.out
    obtain ⟨hfz34_0, hfz34_1, hfz34_2, hfz34_3, hfz34_4, hfz34_5, hfz34_6, hfz34_7, hfz34_8⟩ := fz9_ BK119.out
    obtain ⟨hcz35_0, hcz35_1, hcz35_2⟩ := cz3_ BK106.out
    obtain ⟨hfz35_0, hfz35_1, hfz35_2⟩ := fz3_ BK106.out
    go_wp2
    go_ret2
    exact ⟨_, by first | rfl | (simp [*, ai_, ah_] <;> rfl), by first | exact Kd.S_nil _ _ _ _ _ | exact Kd.N_nil _ _ _ _ _ | exact Kd.V_nil _ _ _ _ _ | exact Kd.Q_nil _ _ _ _ _ | exact Kd.R_nil _ _ _ _ _, by repeat (first | (with_reducible first | exact HB.out | apply bA_ | apply bN_ | apply bD_ | refine aa_ ?_ GE106.out | refine aa_ ?_ GE119.out))⟩
   rw [if_pos c27] at H
   have c27b0 : (t107.toList == ((ag_ l0 x15_1).f1).toList) = true := beq_iff_eq.mpr c27
   have c27b1 : (t107.toList != ((ag_ l0 x15_1).f1).toList) = false := bne_eq_false_iff_eq.mpr c27
   clear c27
   (first | rw [c27b0] | (simp only [i64_w, i32_w]; rw [c27b0]) | (simp only [c27b1, Bool.not_true, Bool.not_false]) | (simp only [c27b0, Bool.not_true, Bool.not_false]) | skip)
   by_cases c28 : x4_1.length < 1256584717458
   rotate_left
   ·rw [if_neg c28] at H
    exact absurd H (by simp)
   rw [if_pos c28] at H
   have LMc28 := Aside0.mk c28
   clear c28
   obtain ⟨y120, hy120⟩ : ∃ y_ : List (S43), y_ = (x4_1 ++ [(⟨t107, t108, t109, (⟨t110, t111, t112⟩ : S40), t113, t114, t115⟩ : S43)]) := ⟨_, rfl⟩
   replace H : (aB_.l0 k1 y120 l0 (l0.length : Int) (wrap64 (x15_1 + 1))) = some (r1, r2) := by first | (rw [hy120]; with_reducible exact H) | (have H2_ := (Option.bind_some _ _).symm.trans H; rw [hy120]; with_reducible exact H2_) | (have H2_ := (Option.bind_some _ _).symm.trans H; with_reducible exact H2_) | with_reducible exact H | (rw [hy120]; exact H) | exact H
   have Ny120 := Aside0.mk hy120
   clear hy120
   have H' := Aside0.mk H
   clear H
   have hnb29 := NB119_106.out
   have hnc29 := NB106_119.out
   obtain ⟨hcz30_0, hcz30_1, hcz30_2, hcz30_3, hcz30_4, hcz30_5, hcz30_6, hcz30_7, hcz30_8⟩ := cz9_ BK119.out
   obtain ⟨hfz30_0, hfz30_1, hfz30_2, hfz30_3, hfz30_4, hfz30_5, hfz30_6, hfz30_7, hfz30_8⟩ := fz9_ BK119.out
   obtain ⟨hcz31_0, hcz31_1, hcz31_2⟩ := cz3_ BK106.out
   obtain ⟨hfz31_0, hfz31_1, hfz31_2⟩ := fz3_ BK106.out
   go_wp2_with (first | ((with_reducible refine cg_ (b := .append) (xs := #[.tmp 37, .tmp 39]) rfl ?_); at_builtin; refine Kd.S_append k43 (w0 := w) w.heap.size rfl (.tmp 37) (.tmp 39) 24 43 (.agg #[(.string ⟨#[]⟩), (.string ⟨#[]⟩), (.int .i64 0), (.string ⟨#[]⟩), (.int .i64 0), (.int .i64 0), (.int .i64 0), (.int .i64 0), (.slice none 0 0)]) 112 rfl Tryz.underlying24 info43 rfl (by decide) (by omega) u4 x4_1 (⟨t107, t108, t109, (⟨t110, t111, t112⟩ : S40), t113, t114, t115⟩ : S43) [.string t107, .string t108, .int .i64 t109, .string t110, .int .i64 t111, .int .i64 t112, .int .i64 t113, .int .i64 t114, .slice Ao24 t115.length co24] (fun k_ => k_ ≠ gb119) (fun k_ => some k_ = (.slice Ao24 t115.length co24 : Value).ownBlock) rfl rfl ?aP (fun k_ hk_ => ((Kd.bg_ (ok' := fun k_ => ((fun k_ => k_ ≠ gb119)) k_ ∧ some k_ ≠ (u4 : Value).ownBlock) (Kd.bW_ (Kd.dh_ (HO117.out) (Kd.S_typed HO_4.out) (by decide)) BK119.out (by decide)) (fun k_ hk => ⟨hk.2, hk.1.2⟩))).1 k_ hk_.symm) ?aF ?aO ?aB ?aS ?aL ?_; (case aP => exact cV_ _ _ _ (⟨t107, t108, t109, (⟨t110, t111, t112⟩ : S40), t113, t114, t115⟩ : S43) (Kd.bg_ (Kd.R_tight rfl (Kd.bg_ (ok' := fun k_ => ((fun k_ => k_ ≠ gb119)) k_ ∧ some k_ ≠ (u4 : Value).ownBlock) (Kd.bW_ (Kd.dh_ (HO117.out) (Kd.S_typed HO_4.out) (by decide)) BK119.out (by decide)) (fun k_ hk => ⟨hk.2, hk.1.2⟩))) (fun _ h_ => h_))); (case aB => exact (by repeat (first | (with_reducible first | exact HB.out | apply bA_ | apply bN_ | apply bD_ | refine aa_ ?_ GE106.out | refine aa_ ?_ GE119.out)))); (case aF => exact (fun k_ hk => Kd.freshB (g := gb119) (o := .cells #[.string t107, .string t108, .int .i64 t109, .string t110, .int .i64 t111, .int .i64 t112, .int .i64 t113, .int .i64 t114, .slice Ao24 t115.length co24] 43 (0, 0)) (kz BK119.out) k_ hk)); (case aO => exact (sz (Kd.bY_ HO_4.out (fun k_ hk => ⟨hk.2, fun e_ => hk.1 e_⟩)))); (case aS => exact (ad_ (by repeat (first | (with_reducible first | exact HB.out | apply bA_ | apply bN_ | apply bD_ | refine aa_ ?_ GE106.out | refine aa_ ?_ GE119.out))))); (case aL => have := LMc28.out; omega); intro v121 w32 ho hb hg hat; rw [← Ny120.out] at ho; replace BK106 := Aside0.mk (co_ (g := gb106) (o := .cells #[.string ((ag_ l0 x15_1).f0), .string ((ag_ l0 x15_1).f1), .string ((ag_ l0 x15_1).f2)] 38 (0, 0)) (kz BK106.out) hg (Kd.S_ne HO_4.out BK106.out (by decide))); replace BK119 := Aside0.mk (co_ (g := gb119) (o := .cells #[.string t107, .string t108, .int .i64 t109, .string t110, .int .i64 t111, .int .i64 t112, .int .i64 t113, .int .i64 t114, .slice Ao24 t115.length co24] 43 (0, 0)) (kz BK119.out) hg (Kd.S_away HO_4.out (fun _ hk => hk.2))); replace HB := Aside0.mk (hb); have HO122 := Aside0.mk (ho); clear HO_4; clear HO117; clear ho hb hg hat))
   go_roundg k1
   case measure => have := HK1.out; omega
   case rel => exact ⟨(y120), (wrap64 (x15_1 + 1)), (by first | rfl | (simp; done) | (simp [*]; done)), H', ⟨by have := HK1.out; omega⟩, ⟨sz (Kd.bY_ HO122.out (fun _ hk => trivial))⟩, ⟨by repeat (first | (with_reducible first | exact HB.out | apply bA_ | apply bN_ | apply bD_ | refine aa_ ?_ GE106.out | refine aa_ ?_ GE119.out))⟩⟩
def cw_.f (a0_0 : ByteArray) (a0_1 : Int) (a0_2 : Int) (a1_0 : ByteArray) (a1_1 : Int) (a1_2 : Int) : Option (Bool) := if a0_0.toList = a1_0.toList then (if a0_1 = a1_1 then (if a0_2 = a1_2 then (some true) else (some false)) else (some false)) else (some false)
set_option maxHeartbeats 8000000 in
set_option maxRecDepth 100000 in
theorem cw_.calls (a0_0 : ByteArray) (a0_1 : Int) (a0_2 : Int) (a1_0 : ByteArray) (a1_1 : Int) (a1_2 : Int) (r : Bool) (w : World) (h : cw_.f a0_0 a0_1 a0_2 a1_0 a1_1 a1_2 = some r) :
  Calls Tryz.prog 40 #[.agg #[.string a0_0, .int .i64 a0_1, .int .i64 a0_2], .agg #[.string a1_0, .int .i64 a1_1, .int .i64 a1_2]] w fun e w' => e = .returned (.bool r) ∧ Below w.heap.size w w' := by
 have hu40 := Tryz.underlying40
 have HB := Aside0.mk (Below.refl w.heap.size w)
 have H : (if a0_0.toList = a1_0.toList then (if a0_1 = a1_1 then (if a0_2 = a1_2 then (some true) else (some false)) else (some false)) else (some false)) = some r := h
 clear h
 have HC3 := Aside0.mk H
 clear H
 go_enter Tryz.func40, Tryz.ntmps40
 go_upto_if 9 with (first | ((with_reducible refine aI_ (N := 2) rfl ?_); refine aR_ ?hg (N := 2) ?hd (cs := #[.string a0_0, .int .i64 a0_1, .int .i64 a0_2]) (t := 40) ?hr ?_; (case hd => rfl); (case hg => rfl); (case hr => (go_simp; try rfl)); intro gb101 hg w4 hbox hb; have BK101 := Aside0.mk (hbox); have GW101 := Aside0.mk ((by rw [hg]; exact (ad_ (bz HB.out)) : w.heap.size ≤ gb101)); have GE101 := Aside0.mk ((by rw [hg]; exact (ad_ (bz HB.out)) : w.heap.size ≤ gb101)); replace HB := Aside0.mk (ac_ (bz HB.out) hb); clear hb hbox hg) | ((with_reducible refine aI_ (N := 3) rfl ?_); refine aR_ ?hg (N := 3) ?hd (cs := #[.string a1_0, .int .i64 a1_1, .int .i64 a1_2]) (t := 40) ?hr ?_; (case hd => rfl); (case hg => rfl); (case hr => (go_simp; try rfl)); intro gb102 hg w5 hbox hb; have BK102 := Aside0.mk (hbox); have GW102 := Aside0.mk ((by rw [hg]; exact (ad_ (by repeat (first | (with_reducible first | exact HB.out | apply bA_ | apply bN_ | apply bD_ | refine aa_ ?_ GE101.out)))) : w.heap.size ≤ gb102)); have GE102 := Aside0.mk ((by rw [hg]; exact (ad_ (by repeat (first | (with_reducible first | exact HB.out | apply bA_ | apply bN_ | apply bD_ | refine aa_ ?_ GE101.out)))) : w.heap.size ≤ gb102)); replace HB := Aside0.mk (ac_ (by repeat (first | (with_reducible first | exact HB.out | apply bA_ | apply bN_ | apply bD_ | refine aa_ ?_ GE101.out))) hb); have NB101_102 := Aside0.mk ((by rw [hg]; exact Nat.ne_of_lt (bF_ (kz BK101.out)) : gb101 ≠ gb102)); have NB102_101 := Aside0.mk ((by rw [hg]; exact Nat.ne_of_gt (bF_ (kz BK101.out)) : gb102 ≠ gb101)); replace BK101 := Aside0.mk (an_ (kz BK101.out) hb); clear hb hbox hg; have hnb6 := NB101_102.out; have hnc6 := NB102_101.out; obtain ⟨hcz7_0, hcz7_1, hcz7_2⟩ := cz3_ BK101.out; obtain ⟨hfz7_0, hfz7_1, hfz7_2⟩ := fz3_ BK101.out; obtain ⟨hcz8_0, hcz8_1, hcz8_2⟩ := cz3_ BK102.out; obtain ⟨hfz8_0, hfz8_1, hfz8_2⟩ := fz3_ BK102.out))
 (try simp only [Act.put, lsa_, ls0_, ls1_])
 have H := HC3.out
 clear HC3
 by_cases c9 : a0_0.toList = a1_0.toList
 rotate_left
 ·rw [if_neg c9] at H
  have c9b0 : (a0_0.toList == a1_0.toList) = false := beq_eq_false_iff_ne.mpr c9
  have c9b1 : (a0_0.toList != a1_0.toList) = true := bne_iff_ne.mpr c9
  (first | rw [c9b0] | (simp only [i64_w, i32_w]; rw [c9b0]) | (simp only [c9b1, Bool.not_true, Bool.not_false]) | (simp only [c9b0, Bool.not_true, Bool.not_false]) | skip)
  obtain rfl := Option.some.inj H
  go_wp2
  go_ret
  exact ⟨by first | rfl | (simp [*, ai_, ah_] <;> rfl), by repeat (first | (with_reducible first | exact HB.out | apply bA_ | apply bN_ | apply bD_ | refine aa_ ?_ GE101.out | refine aa_ ?_ GE102.out))⟩
 rw [if_pos c9] at H
 have c9b0 : (a0_0.toList == a1_0.toList) = true := beq_iff_eq.mpr c9
 have c9b1 : (a0_0.toList != a1_0.toList) = false := bne_eq_false_iff_eq.mpr c9
 clear c9
 (first | rw [c9b0] | (simp only [i64_w, i32_w]; rw [c9b0]) | (simp only [c9b1, Bool.not_true, Bool.not_false]) | (simp only [c9b0, Bool.not_true, Bool.not_false]) | skip)
 by_cases c10 : a0_1 = a1_1
 rotate_left
 ·rw [if_neg c10] at H
  have c10b0 : (a0_1 == a1_1) = false := beq_eq_false_iff_ne.mpr c10
  have c10b1 : (a0_1 != a1_1) = true := bne_iff_ne.mpr c10
  obtain rfl := Option.some.inj H
  have hnb18 := NB101_102.out
  have hnc18 := NB102_101.out
  obtain ⟨hcz19_0, hcz19_1, hcz19_2⟩ := cz3_ BK101.out
  obtain ⟨hfz19_0, hfz19_1, hfz19_2⟩ := fz3_ BK101.out
  obtain ⟨hcz20_0, hcz20_1, hcz20_2⟩ := cz3_ BK102.out
  obtain ⟨hfz20_0, hfz20_1, hfz20_2⟩ := fz3_ BK102.out
  go_wp2
  go_ret
  exact ⟨by first | rfl | (simp [*, ai_, ah_] <;> rfl), by repeat (first | (with_reducible first | exact HB.out | apply bA_ | apply bN_ | apply bD_ | refine aa_ ?_ GE101.out | refine aa_ ?_ GE102.out))⟩
 rw [if_pos c10] at H
 have c10b0 : (a0_1 == a1_1) = true := beq_iff_eq.mpr c10
 have c10b1 : (a0_1 != a1_1) = false := bne_eq_false_iff_eq.mpr c10
 clear c10
 by_cases c11 : a0_2 = a1_2
 rotate_left
 ·rw [if_neg c11] at H
  have c11b0 : (a0_2 == a1_2) = false := beq_eq_false_iff_ne.mpr c11
  have c11b1 : (a0_2 != a1_2) = true := bne_iff_ne.mpr c11
  obtain rfl := Option.some.inj H
  have hnb15 := NB101_102.out
  have hnc15 := NB102_101.out
  obtain ⟨hcz16_0, hcz16_1, hcz16_2⟩ := cz3_ BK101.out
  obtain ⟨hfz16_0, hfz16_1, hfz16_2⟩ := fz3_ BK101.out
  obtain ⟨hcz17_0, hcz17_1, hcz17_2⟩ := cz3_ BK102.out
  obtain ⟨hfz17_0, hfz17_1, hfz17_2⟩ := fz3_ BK102.out
  go_wp2
  go_ret
  exact ⟨by first | rfl | (simp [*, ai_, ah_] <;> rfl), by repeat (first | (with_reducible first | exact HB.out | apply bA_ | apply bN_ | apply bD_ | refine aa_ ?_ GE101.out | refine aa_ ?_ GE102.out))⟩
 rw [if_pos c11] at H
 have c11b0 : (a0_2 == a1_2) = true := beq_iff_eq.mpr c11
 have c11b1 : (a0_2 != a1_2) = false := bne_eq_false_iff_eq.mpr c11
 clear c11
 obtain rfl := Option.some.inj H
 have hnb12 := NB101_102.out
 have hnc12 := NB102_101.out
 obtain ⟨hcz13_0, hcz13_1, hcz13_2⟩ := cz3_ BK101.out
 obtain ⟨hfz13_0, hfz13_1, hfz13_2⟩ := fz3_ BK101.out
 obtain ⟨hcz14_0, hcz14_1, hcz14_2⟩ := cz3_ BK102.out
 obtain ⟨hfz14_0, hfz14_1, hfz14_2⟩ := fz3_ BK102.out
 go_wp2
 go_ret
 exact ⟨by first | rfl | (simp [*, ai_, ah_] <;> rfl), by repeat (first | (with_reducible first | exact HB.out | apply bA_ | apply bN_ | apply bD_ | refine aa_ ?_ GE101.out | refine aa_ ?_ GE102.out))⟩
def laws_eqBox.f (a0_0 : Int) (a0_1 : Int) (a0_2 : Int) (a0_3 : Int) (a1_0 : Int) (a1_1 : Int) (a1_2 : Int) (a1_3 : Int) : Option (Bool) := if a0_0 = a1_0 then (if a0_1 = a1_1 then (if a0_2 = a1_2 then (if a0_3 = a1_3 then (some true) else (some false)) else (some false)) else (some false)) else (some false)
set_option maxHeartbeats 8000000 in
set_option maxRecDepth 100000 in
theorem laws_eqBox.calls (a0_0 : Int) (a0_1 : Int) (a0_2 : Int) (a0_3 : Int) (a1_0 : Int) (a1_1 : Int) (a1_2 : Int) (a1_3 : Int) (r : Bool) (w : World) (h : laws_eqBox.f a0_0 a0_1 a0_2 a0_3 a1_0 a1_1 a1_2 a1_3 = some r) :
  Calls Tryz.prog 60 #[.agg #[.int .i64 a0_0, .int .i64 a0_1, .int .i64 a0_2, .int .i64 a0_3], .agg #[.int .i64 a1_0, .int .i64 a1_1, .int .i64 a1_2, .int .i64 a1_3]] w fun e w' => e = .returned (.bool r) ∧ Below w.heap.size w w' := by
 have hu66 := Tryz.underlying66
 have HB := Aside0.mk (Below.refl w.heap.size w)
 have H : (if a0_0 = a1_0 then (if a0_1 = a1_1 then (if a0_2 = a1_2 then (if a0_3 = a1_3 then (some true) else (some false)) else (some false)) else (some false)) else (some false)) = some r := h
 clear h
 have HC3 := Aside0.mk H
 clear H
 go_enter Tryz.func60, Tryz.ntmps60
 go_upto_if 9 with (first | ((with_reducible refine aI_ (N := 2) rfl ?_); refine aR_ ?hg (N := 2) ?hd (cs := #[.int .i64 a0_0, .int .i64 a0_1, .int .i64 a0_2, .int .i64 a0_3]) (t := 66) ?hr ?_; (case hd => rfl); (case hg => rfl); (case hr => (go_simp; try rfl)); intro gb101 hg w4 hbox hb; have BK101 := Aside0.mk (hbox); have GW101 := Aside0.mk ((by rw [hg]; exact (ad_ (bz HB.out)) : w.heap.size ≤ gb101)); have GE101 := Aside0.mk ((by rw [hg]; exact (ad_ (bz HB.out)) : w.heap.size ≤ gb101)); replace HB := Aside0.mk (ac_ (bz HB.out) hb); clear hb hbox hg) | ((with_reducible refine aI_ (N := 3) rfl ?_); refine aR_ ?hg (N := 3) ?hd (cs := #[.int .i64 a1_0, .int .i64 a1_1, .int .i64 a1_2, .int .i64 a1_3]) (t := 66) ?hr ?_; (case hd => rfl); (case hg => rfl); (case hr => (go_simp; try rfl)); intro gb102 hg w5 hbox hb; have BK102 := Aside0.mk (hbox); have GW102 := Aside0.mk ((by rw [hg]; exact (ad_ (by repeat (first | (with_reducible first | exact HB.out | apply bA_ | apply bN_ | apply bD_ | refine aa_ ?_ GE101.out)))) : w.heap.size ≤ gb102)); have GE102 := Aside0.mk ((by rw [hg]; exact (ad_ (by repeat (first | (with_reducible first | exact HB.out | apply bA_ | apply bN_ | apply bD_ | refine aa_ ?_ GE101.out)))) : w.heap.size ≤ gb102)); replace HB := Aside0.mk (ac_ (by repeat (first | (with_reducible first | exact HB.out | apply bA_ | apply bN_ | apply bD_ | refine aa_ ?_ GE101.out))) hb); have NB101_102 := Aside0.mk ((by rw [hg]; exact Nat.ne_of_lt (bF_ (kz BK101.out)) : gb101 ≠ gb102)); have NB102_101 := Aside0.mk ((by rw [hg]; exact Nat.ne_of_gt (bF_ (kz BK101.out)) : gb102 ≠ gb101)); replace BK101 := Aside0.mk (an_ (kz BK101.out) hb); clear hb hbox hg; have hnb6 := NB101_102.out; have hnc6 := NB102_101.out; obtain ⟨hcz7_0, hcz7_1, hcz7_2, hcz7_3⟩ := cz4_ BK101.out; obtain ⟨hfz7_0, hfz7_1, hfz7_2, hfz7_3⟩ := fz4_ BK101.out; obtain ⟨hcz8_0, hcz8_1, hcz8_2, hcz8_3⟩ := cz4_ BK102.out; obtain ⟨hfz8_0, hfz8_1, hfz8_2, hfz8_3⟩ := fz4_ BK102.out))
 (try simp only [Act.put, lsa_, ls0_, ls1_])
 have H := HC3.out
 clear HC3
 by_cases c9 : a0_0 = a1_0
 rotate_left
 ·rw [if_neg c9] at H
  have c9b0 : (a0_0 == a1_0) = false := beq_eq_false_iff_ne.mpr c9
  have c9b1 : (a0_0 != a1_0) = true := bne_iff_ne.mpr c9
  (first | rw [c9b0] | (simp only [i64_w, i32_w]; rw [c9b0]) | (simp only [c9b1, Bool.not_true, Bool.not_false]) | (simp only [c9b0, Bool.not_true, Bool.not_false]) | skip)
  obtain rfl := Option.some.inj H
  go_wp2
  go_ret
  exact ⟨by first | rfl | (simp [*, ai_, ah_] <;> rfl), by repeat (first | (with_reducible first | exact HB.out | apply bA_ | apply bN_ | apply bD_ | refine aa_ ?_ GE101.out | refine aa_ ?_ GE102.out))⟩
 rw [if_pos c9] at H
 have c9b0 : (a0_0 == a1_0) = true := beq_iff_eq.mpr c9
 have c9b1 : (a0_0 != a1_0) = false := bne_eq_false_iff_eq.mpr c9
 clear c9
 (first | rw [c9b0] | (simp only [i64_w, i32_w]; rw [c9b0]) | (simp only [c9b1, Bool.not_true, Bool.not_false]) | (simp only [c9b0, Bool.not_true, Bool.not_false]) | skip)
 by_cases c10 : a0_1 = a1_1
 rotate_left
 ·rw [if_neg c10] at H
  have c10b0 : (a0_1 == a1_1) = false := beq_eq_false_iff_ne.mpr c10
  have c10b1 : (a0_1 != a1_1) = true := bne_iff_ne.mpr c10
  obtain rfl := Option.some.inj H
  have hnb22 := NB101_102.out
  have hnc22 := NB102_101.out
  obtain ⟨hcz23_0, hcz23_1, hcz23_2, hcz23_3⟩ := cz4_ BK101.out
  obtain ⟨hfz23_0, hfz23_1, hfz23_2, hfz23_3⟩ := fz4_ BK101.out
  obtain ⟨hcz24_0, hcz24_1, hcz24_2, hcz24_3⟩ := cz4_ BK102.out
  obtain ⟨hfz24_0, hfz24_1, hfz24_2, hfz24_3⟩ := fz4_ BK102.out
  go_wp2
  go_ret
  exact ⟨by first | rfl | (simp [*, ai_, ah_] <;> rfl), by repeat (first | (with_reducible first | exact HB.out | apply bA_ | apply bN_ | apply bD_ | refine aa_ ?_ GE101.out | refine aa_ ?_ GE102.out))⟩
 rw [if_pos c10] at H
 have c10b0 : (a0_1 == a1_1) = true := beq_iff_eq.mpr c10
 have c10b1 : (a0_1 != a1_1) = false := bne_eq_false_iff_eq.mpr c10
 clear c10
 by_cases c11 : a0_2 = a1_2
 rotate_left
 ·rw [if_neg c11] at H
  have c11b0 : (a0_2 == a1_2) = false := beq_eq_false_iff_ne.mpr c11
  have c11b1 : (a0_2 != a1_2) = true := bne_iff_ne.mpr c11
  obtain rfl := Option.some.inj H
  have hnb19 := NB101_102.out
  have hnc19 := NB102_101.out
  obtain ⟨hcz20_0, hcz20_1, hcz20_2, hcz20_3⟩ := cz4_ BK101.out
  obtain ⟨hfz20_0, hfz20_1, hfz20_2, hfz20_3⟩ := fz4_ BK101.out
  obtain ⟨hcz21_0, hcz21_1, hcz21_2, hcz21_3⟩ := cz4_ BK102.out
  obtain ⟨hfz21_0, hfz21_1, hfz21_2, hfz21_3⟩ := fz4_ BK102.out
  go_wp2
  go_ret
  exact ⟨by first | rfl | (simp [*, ai_, ah_] <;> rfl), by repeat (first | (with_reducible first | exact HB.out | apply bA_ | apply bN_ | apply bD_ | refine aa_ ?_ GE101.out | refine aa_ ?_ GE102.out))⟩
 rw [if_pos c11] at H
 have c11b0 : (a0_2 == a1_2) = true := beq_iff_eq.mpr c11
 have c11b1 : (a0_2 != a1_2) = false := bne_eq_false_iff_eq.mpr c11
 clear c11
 by_cases c12 : a0_3 = a1_3
 rotate_left
 ·rw [if_neg c12] at H
  have c12b0 : (a0_3 == a1_3) = false := beq_eq_false_iff_ne.mpr c12
  have c12b1 : (a0_3 != a1_3) = true := bne_iff_ne.mpr c12
  obtain rfl := Option.some.inj H
  have hnb16 := NB101_102.out
  have hnc16 := NB102_101.out
  obtain ⟨hcz17_0, hcz17_1, hcz17_2, hcz17_3⟩ := cz4_ BK101.out
  obtain ⟨hfz17_0, hfz17_1, hfz17_2, hfz17_3⟩ := fz4_ BK101.out
  obtain ⟨hcz18_0, hcz18_1, hcz18_2, hcz18_3⟩ := cz4_ BK102.out
  obtain ⟨hfz18_0, hfz18_1, hfz18_2, hfz18_3⟩ := fz4_ BK102.out
  go_wp2
  go_ret
  exact ⟨by first | rfl | (simp [*, ai_, ah_] <;> rfl), by repeat (first | (with_reducible first | exact HB.out | apply bA_ | apply bN_ | apply bD_ | refine aa_ ?_ GE101.out | refine aa_ ?_ GE102.out))⟩
 rw [if_pos c12] at H
 have c12b0 : (a0_3 == a1_3) = true := beq_iff_eq.mpr c12
 have c12b1 : (a0_3 != a1_3) = false := bne_eq_false_iff_eq.mpr c12
 clear c12
 obtain rfl := Option.some.inj H
 have hnb13 := NB101_102.out
 have hnc13 := NB102_101.out
 obtain ⟨hcz14_0, hcz14_1, hcz14_2, hcz14_3⟩ := cz4_ BK101.out
 obtain ⟨hfz14_0, hfz14_1, hfz14_2, hfz14_3⟩ := fz4_ BK101.out
 obtain ⟨hcz15_0, hcz15_1, hcz15_2, hcz15_3⟩ := cz4_ BK102.out
 obtain ⟨hfz15_0, hfz15_1, hfz15_2, hfz15_3⟩ := fz4_ BK102.out
 go_wp2
 go_ret
 exact ⟨by first | rfl | (simp [*, ai_, ah_] <;> rfl), by repeat (first | (with_reducible first | exact HB.out | apply bA_ | apply bN_ | apply bD_ | refine aa_ ?_ GE101.out | refine aa_ ?_ GE102.out))⟩
def bj_.l0 : Nat → List (S66) → List (S66) → Int → Option (Bool)
 | 0, _, _, _ => none
 | k + 1, x0, x1, x5 => if x5 < (x0.length : Int) then (if 0 ≤ x5 then (if x5 < (x1.length : Int) then ((laws_eqBox.f ((al_ x0 x5).f0) ((al_ x0 x5).f1) ((al_ x0 x5).f2) ((al_ x0 x5).f3) ((al_ x1 x5).f0) ((al_ x1 x5).f1) ((al_ x1 x5).f2) ((al_ x1 x5).f3)).bind fun t103 => (if t103 = true then (bj_.l0 k x0 x1 (wrap64 (x5 + 1))) else (some false))) else (none)) else (none)) else (some true)
def bj_.f (k : Nat) (l0 : List (S66)) (l1 : List (S66)) : Option (Bool) := if (l0.length : Int) = (l1.length : Int) then (bj_.l0 k l0 l1 0) else (some false)
def bj_.T6 : Bool × List (List Nat × List Nat) := (true, [([], []), ([], []), ([0, 1], [0, 1]), ([2], [2]), ([], []), ([], []), ([4, 5], [4, 5]), ([6], [6]), ([3, 7], [3, 7]), ([8], [8])])
def bj_.B6 : List Nat := [0, 0, 3, 7, 0, 0, 48, 112, 255, 511]
theorem bj_.tab6 : rtab .any (opsOf Tryz.f41 6) = bj_.T6 := by kernel_rfl
theorem bj_.bits6 : cC_ bj_.T6.2 bj_.B6 = true := by kernel_rfl
set_option maxHeartbeats 8000000 in
set_option maxRecDepth 100000 in
theorem bj_.calls (k : Nat) (A0 : Option Addr) (c0 : Nat) (l0 : List (S66)) (A1 : Option Addr) (c1 : Nat) (l1 : List (S66)) (r : Bool) (w : World) (hr0 : Kd.C k66 w A0 l0.length l0) (hc0 : l0.length ≤ c0) (hr1 : Kd.C k66 w A1 l1.length l1) (hc1 : l1.length ≤ c1) (h : bj_.f k l0 l1 = some r) :
  Calls Tryz.prog 41 #[.slice A0 l0.length c0, .slice A1 l1.length c1] w fun e w' => e = .returned (.bool r) ∧ Below w.heap.size w w' := by
 have hu66 := Tryz.underlying66
 have HR0 := Aside0.mk hr0
 have HC0 := Aside0.mk hc0
 clear hr0 hc0
 have HR1 := Aside0.mk hr1
 have HC1 := Aside0.mk hc1
 clear hr1 hc1
 have HB := Aside0.mk (Below.refl w.heap.size w)
 have H : (if (l0.length : Int) = (l1.length : Int) then (bj_.l0 k l0 l1 0) else (some false)) = some r := h
 clear h
 by_cases c3 : (l0.length : Int) = (l1.length : Int)
 rotate_left
 ·rw [if_neg c3] at H
  have c3b0 : ((l0.length : Int) == (l1.length : Int)) = false := beq_eq_false_iff_ne.mpr c3
  have c3b1 : ((l0.length : Int) != (l1.length : Int)) = true := bne_iff_ne.mpr c3
  have c3b2 : (l0.length == l1.length) = false := by first | simpa using c3 | (simp at c3 ⊢; omega)
  obtain rfl := Option.some.inj H
  go_enter Tryz.func41, Tryz.ntmps41
  go_wp2
  go_ret
  exact ⟨by first | rfl | (simp [*, ai_, ah_] <;> rfl), bz HB.out⟩
 rw [if_pos c3] at H
 have c3b0 : ((l0.length : Int) == (l1.length : Int)) = true := beq_iff_eq.mpr c3
 have c3b1 : ((l0.length : Int) != (l1.length : Int)) = false := bne_eq_false_iff_eq.mpr c3
 have c3b2 : (l0.length == l1.length) = true := by first | simpa using c3 | (simp at c3 ⊢; omega)
 clear c3
 have H' := Aside0.mk H
 clear H
 go_enter Tryz.func41, Tryz.ntmps41
 go_wp2
 (try simp only [Act.put, lsa_, ls0_, ls1_])
 go_loopg [5] k (fun kq v5 w' => ∃ (x5_1 : Int), v5 = .int .i64 x5_1 ∧ Aside0 (bj_.l0 kq l0 l1 x5_1 = some r) ∧ Aside0 (kq ≤ k) ∧ Aside0 (Below w.heap.size w w'))
 case atStart => exact ⟨(0), (by first | rfl | (simp; done) | (simp [*]; done)), H', ⟨Nat.le_refl _⟩, ⟨bz HB.out⟩⟩
 case round =>
  clear H'
  obtain ⟨x5_1, rfl, HA, HK1, HB⟩ := hrel
  cases gk with
  | zero => exact absurd HA.out (by simp [bj_.l0])
  | succ k1 =>
   have H := HA.out
   clear HA
   simp only [bj_.l0] at H
   by_cases c4 : x5_1 < (l0.length : Int)
   rotate_left
   ·rw [if_neg c4] at H
    have c4b0 : decide (x5_1 < (l0.length : Int)) = false := decide_eq_false c4
    clear c4
    obtain rfl := Option.some.inj H
    go_wp2
    go_ret
    exact ⟨by first | rfl | (simp [*, ai_, ah_] <;> rfl), bz HB.out⟩
   rw [if_pos c4] at H
   have c4b0 : decide (x5_1 < (l0.length : Int)) = true := decide_eq_true c4
   clear c4
   by_cases c5 : 0 ≤ x5_1
   rotate_left
   ·rw [if_neg c5] at H
    exact absurd H (by simp)
   rw [if_pos c5] at H
   have c5b0 : decide (0 ≤ x5_1) = true := decide_eq_true c5
   clear c5
   by_cases c6 : x5_1 < (l1.length : Int)
   rotate_left
   ·rw [if_neg c6] at H
    exact absurd H (by simp)
   rw [if_pos c6] at H
   have c6b0 : decide (x5_1 < (l1.length : Int)) = true := decide_eq_true c6
   clear c6
   replace H := Option.bind_eq_some_iff.mp H
   obtain ⟨t103, A70, H⟩ := H
   (try dsimp only at H)
   have A7 := Aside0.mk A70
   clear A70
   have HC8 := Aside0.mk H
   clear H
   try go_wp2
   have n0_ := Aside0.mk (bD_ HB.out)
   clear HB
   have HB := n0_
   clear n0_
   have p101 : 0 ≤ (x5_1 : Int) := of_decide_eq_true (by assumption)
   have q101 : x5_1 < (l0.length : Int) := of_decide_eq_true (by assumption)
   obtain ⟨ad101, e101, hx101_0, hx101_1, hx101_2, hx101_3⟩ := ck_ HR0.out x5_1 p101 q101
   have hw101_3 := hx101_3
   have hw101_2 := hx101_2
   have hw101_1 := hx101_1
   have hw101_0 := hx101_0
   cases e101
   replace hx101_0 := bu_ HB.out hx101_0
   replace hx101_1 := bu_ HB.out hx101_1
   replace hx101_2 := bu_ HB.out hx101_2
   replace hx101_3 := bu_ HB.out hx101_3
   replace p101 := eq_true p101
   replace q101 := eq_true q101
   have p102 : 0 ≤ (x5_1 : Int) := of_decide_eq_true (by assumption)
   have q102 : x5_1 < (l1.length : Int) := of_decide_eq_true (by assumption)
   obtain ⟨ad102, e102, hx102_0, hx102_1, hx102_2, hx102_3⟩ := ck_ HR1.out x5_1 p102 q102
   have hw102_3 := hx102_3
   have hw102_2 := hx102_2
   have hw102_1 := hx102_1
   have hw102_0 := hx102_0
   cases e102
   replace hx102_0 := bu_ HB.out hx102_0
   replace hx102_1 := bu_ HB.out hx102_1
   replace hx102_2 := bu_ HB.out hx102_2
   replace hx102_3 := bu_ HB.out hx102_3
   replace p102 := eq_true p102
   replace q102 := eq_true q102
   refine start_ (n := 10) (S := fun w' => w'.cell? (ad101.add ((x5_1).toNat * 4)) = some (.int .i64 ((al_ l0 x5_1).f0)) ∧ w'.cell? ⟨(ad101.add ((x5_1).toNat * 4)).block, (ad101.add ((x5_1).toNat * 4)).off + 1, none⟩ = some (.int .i64 ((al_ l0 x5_1).f1)) ∧ w'.cell? ⟨(ad101.add ((x5_1).toNat * 4)).block, (ad101.add ((x5_1).toNat * 4)).off + 2, none⟩ = some (.int .i64 ((al_ l0 x5_1).f2)) ∧ w'.cell? ⟨(ad101.add ((x5_1).toNat * 4)).block, (ad101.add ((x5_1).toNat * 4)).off + 3, none⟩ = some (.int .i64 ((al_ l0 x5_1).f3)) ∧ w'.cell? (ad102.add ((x5_1).toNat * 4)) = some (.int .i64 ((al_ l1 x5_1).f0)) ∧ w'.cell? ⟨(ad102.add ((x5_1).toNat * 4)).block, (ad102.add ((x5_1).toNat * 4)).off + 1, none⟩ = some (.int .i64 ((al_ l1 x5_1).f1)) ∧ w'.cell? ⟨(ad102.add ((x5_1).toNat * 4)).block, (ad102.add ((x5_1).toNat * 4)).off + 2, none⟩ = some (.int .i64 ((al_ l1 x5_1).f2)) ∧ w'.cell? ⟨(ad102.add ((x5_1).toNat * 4)).block, (ad102.add ((x5_1).toNat * 4)).off + 3, none⟩ = some (.int .i64 ((al_ l1 x5_1).f3))) (ds := []) #[f_,f_,f_,f_,f_,f_,f_,f_,f_,f_] (by kernel_rfl) rfl rfl ⟨(bu_ HB.out hw101_0), (bu_ HB.out hw101_1), (bu_ HB.out hw101_2), (bu_ HB.out hw101_3), (bu_ HB.out hw102_0), (bu_ HB.out hw102_1), (bu_ HB.out hw102_2), (bu_ HB.out hw102_3)⟩ (fun hHeld => ?_); refine cl_ bj_.tab6 bj_.bits6 (fun HT_ HW_ => ?_)
   generalize wr.drew = w9 at HB hx101_0 hx101_1 hx101_2 hx101_3 hx102_0 hx102_1 hx102_2 hx102_3 hHeld ⊢
   refine pure_ (i := 0) (N := some 17) (v := ?_) (a' := ?_) #[t_,f_,f_,f_,f_,f_,f_,f_,f_,f_] rfl rfl (aH_ HT_.out (by kernel_rfl)) (fun _ _ _ h => h) (Or.inl ⟨by rfl, ?_⟩) ?_ ?_
   rotate_left
   ·intro w'
    go_simp
    with_reducible rfl
   rotate_left
   ·simp only [Act.put, lsa_, ls0_, ls1_, i64_w, i32_w]
    rfl
   refine pure_ (i := 1) (N := some 18) (v := ?_) (a' := ?_) #[t_,t_,f_,f_,f_,f_,f_,f_,f_,f_] rfl rfl (aH_ HT_.out (by kernel_rfl)) (fun _ _ _ h => h) (Or.inl ⟨by rfl, ?_⟩) ?_ ?_
   rotate_left
   ·intro w'
    go_simp
    with_reducible rfl
   rotate_left
   ·simp only [Act.put, lsa_, ls0_, ls1_, i64_w, i32_w]
    rfl
   refine pure_ (i := 2) (N := some 19) (v := ?_) (a' := ?_) #[t_,t_,t_,f_,f_,f_,f_,f_,f_,f_] rfl rfl (aH_ HT_.out (by kernel_rfl)) (fun _ _ _ h => h) (Or.inl ⟨by rfl, ?_⟩) ?_ ?_
   rotate_left
   ·intro w'
    go_simp
    with_reducible rfl
   rotate_left
   ·simp only [Act.put, lsa_, ls0_, ls1_, i64_w, i32_w]
    rfl
   refine pure_ (i := 4) (N := some 21) (v := ?_) (a' := ?_) #[t_,t_,t_,f_,t_,f_,f_,f_,f_,f_] rfl rfl (aH_ HT_.out (by kernel_rfl)) (fun _ _ _ h => h) (Or.inl ⟨by rfl, ?_⟩) ?_ ?_
   rotate_left
   ·intro w'
    go_simp
    with_reducible rfl
   rotate_left
   ·simp only [Act.put, lsa_, ls0_, ls1_, i64_w, i32_w]
    rfl
   refine pure_ (i := 5) (N := some 22) (v := ?_) (a' := ?_) #[t_,t_,t_,f_,t_,t_,f_,f_,f_,f_] rfl rfl (aH_ HT_.out (by kernel_rfl)) (fun _ _ _ h => h) (Or.inl ⟨by rfl, ?_⟩) ?_ ?_
   rotate_left
   ·intro w'
    go_simp
    with_reducible rfl
   rotate_left
   ·simp only [Act.put, lsa_, ls0_, ls1_, i64_w, i32_w]
    rfl
   refine pure_ (i := 6) (N := some 23) (v := ?_) (a' := ?_) #[t_,t_,t_,f_,t_,t_,t_,f_,f_,f_] rfl rfl (aH_ HT_.out (by kernel_rfl)) (fun _ _ _ h => h) (Or.inl ⟨by rfl, ?_⟩) ?_ ?_
   rotate_left
   ·intro w'
    go_simp
    with_reducible rfl
   rotate_left
   ·simp only [Act.put, lsa_, ls0_, ls1_, i64_w, i32_w]
    rfl
   refine take_ (i := 3) (N := some 20) (v := ?_) (a' := ?_) #[t_,t_,t_,t_,t_,t_,t_,f_,f_,f_] rfl rfl (bt_ HT_.out HW_.out (by kernel_rfl)) (fun _ _ _ h => h) (Or.inl ⟨by rfl, ?_⟩) hHeld ?_ ?_
   rotate_left
   ·rintro w' ⟨s0, s1, s2, s3, s4, s5, s6, s7⟩
    go_simp
    with_reducible rfl
   rotate_left
   ·simp only [Act.put, lsa_, ls0_, ls1_, i64_w, i32_w]
    rfl
   refine take_ (i := 7) (N := some 24) (v := ?_) (a' := ?_) #[t_,t_,t_,t_,t_,t_,t_,t_,f_,f_] rfl rfl (bt_ HT_.out HW_.out (by kernel_rfl)) (fun _ _ _ h => h) (Or.inl ⟨by rfl, ?_⟩) hHeld ?_ ?_
   rotate_left
   ·rintro w' ⟨s0, s1, s2, s3, s4, s5, s6, s7⟩
    go_simp
    with_reducible rfl
   rotate_left
   ·simp only [Act.put, lsa_, ls0_, ls1_, i64_w, i32_w]
    rfl
   refine one_ (i := 8) (N := some 25) #[t_,t_,t_,t_,t_,t_,t_,t_,t_,f_] rfl rfl (ct_ HT_.out (by kernel_rfl)) (by decide) (fun K hK => ?_)
   (first | refine goes_ Tryz.func60 (by kernel_rfl) rfl #[.agg #[.int .i64 ((al_ l0 x5_1).f0), .int .i64 ((al_ l0 x5_1).f1), .int .i64 ((al_ l0 x5_1).f2), .int .i64 ((al_ l0 x5_1).f3)], .agg #[.int .i64 ((al_ l1 x5_1).f0), .int .i64 ((al_ l1 x5_1).f1), .int .i64 ((al_ l1 x5_1).f2), .int .i64 ((al_ l1 x5_1).f3)]] (by rfl) rfl rfl (by first | rfl | (simp only [lma_, lmc_, lmn_]; first | done | rfl)) ?_ | refine RPW.df_ Tryz.func60 (by kernel_rfl) rfl #[.agg #[.int .i64 ((al_ l0 x5_1).f0), .int .i64 ((al_ l0 x5_1).f1), .int .i64 ((al_ l0 x5_1).f2), .int .i64 ((al_ l0 x5_1).f3)], .agg #[.int .i64 ((al_ l1 x5_1).f0), .int .i64 ((al_ l1 x5_1).f1), .int .i64 ((al_ l1 x5_1).f2), .int .i64 ((al_ l1 x5_1).f3)]] (by rfl) rfl rfl rfl (by first | rfl | (simp only [lma_, lmc_, lmn_]; first | done | rfl)) ?_ | refine RPW.dg_ Tryz.func60 (by kernel_rfl) rfl #[.agg #[.int .i64 ((al_ l0 x5_1).f0), .int .i64 ((al_ l0 x5_1).f1), .int .i64 ((al_ l0 x5_1).f2), .int .i64 ((al_ l0 x5_1).f3)], .agg #[.int .i64 ((al_ l1 x5_1).f0), .int .i64 ((al_ l1 x5_1).f1), .int .i64 ((al_ l1 x5_1).f2), .int .i64 ((al_ l1 x5_1).f3)]] (by rfl) rfl rfl rfl (by first | rfl | (simp only [lma_, lmc_, lmn_]; first | done | rfl)) ?_)
   with_reducible refine (laws_eqBox.calls ((al_ l0 x5_1).f0) ((al_ l0 x5_1).f1) ((al_ l0 x5_1).f2) ((al_ l0 x5_1).f3) ((al_ l1 x5_1).f0) ((al_ l1 x5_1).f1) ((al_ l1 x5_1).f2) ((al_ l1 x5_1).f3) t103 _ A7.out).mono ?_
   rintro e w10 ⟨rfl, hb⟩
   refine ⟨_, rfl, ?_⟩
   have n0_ := Aside0.mk (ac_ (bz HB.out) hb)
   clear HB
   have HB := n0_
   clear n0_
   (try clear hb)
   refine hK.out _ _ ⟨(bu_ HB.out hw101_0), (bu_ HB.out hw101_1), (bu_ HB.out hw101_2), (bu_ HB.out hw101_3), (bu_ HB.out hw102_0), (bu_ HB.out hw102_1), (bu_ HB.out hw102_2), (bu_ HB.out hw102_3)⟩ (fun hHeld => ?_)
   clear hK K
   refine norm_ (a' := ?_) ?_ ?_
   rotate_left
   ·show Act.put _ (some 25) _ = _
    simp only [Act.put, lsa_, ls0_, ls1_, i64_w, i32_w]
    rfl
   refine pure_ (i := 9) (N := some 26) (v := ?_) (a' := ?_) #[t_,t_,t_,t_,t_,t_,t_,t_,t_,t_] rfl rfl (aH_ HT_.out (by kernel_rfl)) (fun _ _ _ h => h) (Or.inl ⟨by rfl, ?_⟩) ?_ ?_
   rotate_left
   ·intro w'
    go_simp
    with_reducible rfl
   rotate_left
   ·simp only [Act.put, lsa_, ls0_, ls1_, i64_w, i32_w]
    rfl
   refine done_ (cN_ HT_.out (by kernel_rfl)) ?_
   go_upto_if 26 with (fail)
   have H := HC8.out
   clear HC8
   by_cases c11 : t103 = true
   rotate_left
   ·replace c11 := Bool.eq_false_iff.mpr c11
    subst c11
    have H1 : (some false) = some r := by rw [if_neg (show ¬ (false = true) by decide)] at H; exact H
    clear H
    have H := H1
    clear H1
    obtain rfl := Option.some.inj H
    go_wp2
    go_ret
    exact ⟨by first | rfl | (simp [*, ai_, ah_] <;> rfl), bz HB.out⟩
   subst c11
   have H1 : (bj_.l0 k1 l0 l1 (wrap64 (x5_1 + 1))) = some r := by rw [if_pos rfl] at H; exact H
   clear H
   have H := H1
   clear H1
   have H' := Aside0.mk H
   clear H
   go_wp2
   go_roundg k1
   case measure => have := HK1.out; omega
   case rel => exact ⟨(wrap64 (x5_1 + 1)), (by first | rfl | (simp; done) | (simp [*]; done)), H', ⟨by have := HK1.out; omega⟩, ⟨bz HB.out⟩⟩
def cW_.f (k : Nat) (a0_0 : ByteArray) (a0_1 : ByteArray) (a0_2 : Int) (a0_3 : ByteArray) (a0_4 : Int) (a0_5 : Int) (a0_6 : Int) (a0_7 : Int) (l0_8 : List (S66)) (a1_0 : ByteArray) (a1_1 : ByteArray) (a1_2 : Int) (a1_3 : ByteArray) (a1_4 : Int) (a1_5 : Int) (a1_6 : Int) (a1_7 : Int) (l1_8 : List (S66)) : Option (Bool) := if a0_0.toList = a1_0.toList then (if a0_1.toList = a1_1.toList then (if a0_2 = a1_2 then ((cw_.f a0_3 a0_4 a0_5 a1_3 a1_4 a1_5).bind fun t103 => (if t103 = true then (if a0_6 = a1_6 then (if a0_7 = a1_7 then ((bj_.f k l0_8 l1_8).bind fun t104 => (if t104 = true then (some true) else (some false))) else (some false)) else (some false)) else (some false))) else (some false)) else (some false)) else (some false)
set_option maxHeartbeats 8000000 in
set_option maxRecDepth 100000 in
theorem cW_.calls (k : Nat) (a0_0 : ByteArray) (a0_1 : ByteArray) (a0_2 : Int) (a0_3 : ByteArray) (a0_4 : Int) (a0_5 : Int) (a0_6 : Int) (a0_7 : Int) (A0_8 : Option Addr) (c0_8 : Nat) (l0_8 : List (S66)) (a1_0 : ByteArray) (a1_1 : ByteArray) (a1_2 : Int) (a1_3 : ByteArray) (a1_4 : Int) (a1_5 : Int) (a1_6 : Int) (a1_7 : Int) (A1_8 : Option Addr) (c1_8 : Nat) (l1_8 : List (S66)) (r : Bool) (w : World) (hr0_8 : Kd.C k66 w A0_8 l0_8.length l0_8) (hc0_8 : l0_8.length ≤ c0_8) (hr1_8 : Kd.C k66 w A1_8 l1_8.length l1_8) (hc1_8 : l1_8.length ≤ c1_8) (h : cW_.f k a0_0 a0_1 a0_2 a0_3 a0_4 a0_5 a0_6 a0_7 l0_8 a1_0 a1_1 a1_2 a1_3 a1_4 a1_5 a1_6 a1_7 l1_8 = some r) :
  Calls Tryz.prog 19 #[.agg #[.string a0_0, .string a0_1, .int .i64 a0_2, .string a0_3, .int .i64 a0_4, .int .i64 a0_5, .int .i64 a0_6, .int .i64 a0_7, .slice A0_8 l0_8.length c0_8], .agg #[.string a1_0, .string a1_1, .int .i64 a1_2, .string a1_3, .int .i64 a1_4, .int .i64 a1_5, .int .i64 a1_6, .int .i64 a1_7, .slice A1_8 l1_8.length c1_8]] w fun e w' => e = .returned (.bool r) ∧ Below w.heap.size w w' := by
 have hu43 := Tryz.underlying43
 have hu40 := Tryz.underlying40
 have HR0_8 := Aside0.mk hr0_8
 have HC0_8 := Aside0.mk hc0_8
 clear hr0_8 hc0_8
 have HR1_8 := Aside0.mk hr1_8
 have HC1_8 := Aside0.mk hc1_8
 clear hr1_8 hc1_8
 have HB := Aside0.mk (Below.refl w.heap.size w)
 have H : (if a0_0.toList = a1_0.toList then (if a0_1.toList = a1_1.toList then (if a0_2 = a1_2 then ((cw_.f a0_3 a0_4 a0_5 a1_3 a1_4 a1_5).bind fun t103 => (if t103 = true then (if a0_6 = a1_6 then (if a0_7 = a1_7 then ((bj_.f k l0_8 l1_8).bind fun t104 => (if t104 = true then (some true) else (some false))) else (some false)) else (some false)) else (some false))) else (some false)) else (some false)) else (some false)) = some r := h
 clear h
 have HC3 := Aside0.mk H
 clear H
 go_enter Tryz.func19, Tryz.ntmps19
 go_upto_if 9 with (first | ((with_reducible refine aI_ (N := 2) rfl ?_); refine aR_ ?hg (N := 2) ?hd (cs := #[.string a0_0, .string a0_1, .int .i64 a0_2, .string a0_3, .int .i64 a0_4, .int .i64 a0_5, .int .i64 a0_6, .int .i64 a0_7, .slice A0_8 l0_8.length c0_8]) (t := 43) ?hr ?_; (case hd => rfl); (case hg => rfl); (case hr => (go_simp; try rfl)); intro gb101 hg w4 hbox hb; have BK101 := Aside0.mk (hbox); have GW101 := Aside0.mk ((by rw [hg]; exact (ad_ (bz HB.out)) : w.heap.size ≤ gb101)); have GE101 := Aside0.mk ((by rw [hg]; exact (ad_ (bz HB.out)) : w.heap.size ≤ gb101)); replace HB := Aside0.mk (ac_ (bz HB.out) hb); clear hb hbox hg) | ((with_reducible refine aI_ (N := 3) rfl ?_); refine aR_ ?hg (N := 3) ?hd (cs := #[.string a1_0, .string a1_1, .int .i64 a1_2, .string a1_3, .int .i64 a1_4, .int .i64 a1_5, .int .i64 a1_6, .int .i64 a1_7, .slice A1_8 l1_8.length c1_8]) (t := 43) ?hr ?_; (case hd => rfl); (case hg => rfl); (case hr => (go_simp; try rfl)); intro gb102 hg w5 hbox hb; have BK102 := Aside0.mk (hbox); have GW102 := Aside0.mk ((by rw [hg]; exact (ad_ (by repeat (first | (with_reducible first | exact HB.out | apply bA_ | apply bN_ | apply bD_ | refine aa_ ?_ GE101.out)))) : w.heap.size ≤ gb102)); have GE102 := Aside0.mk ((by rw [hg]; exact (ad_ (by repeat (first | (with_reducible first | exact HB.out | apply bA_ | apply bN_ | apply bD_ | refine aa_ ?_ GE101.out)))) : w.heap.size ≤ gb102)); replace HB := Aside0.mk (ac_ (by repeat (first | (with_reducible first | exact HB.out | apply bA_ | apply bN_ | apply bD_ | refine aa_ ?_ GE101.out))) hb); have NB101_102 := Aside0.mk ((by rw [hg]; exact Nat.ne_of_lt (bF_ (kz BK101.out)) : gb101 ≠ gb102)); have NB102_101 := Aside0.mk ((by rw [hg]; exact Nat.ne_of_gt (bF_ (kz BK101.out)) : gb102 ≠ gb101)); replace BK101 := Aside0.mk (an_ (kz BK101.out) hb); clear hb hbox hg; have hnb6 := NB101_102.out; have hnc6 := NB102_101.out; obtain ⟨hcz7_0, hcz7_1, hcz7_2, hcz7_3, hcz7_4, hcz7_5, hcz7_6, hcz7_7, hcz7_8⟩ := cz9_ BK101.out; obtain ⟨hfz7_0, hfz7_1, hfz7_2, hfz7_3, hfz7_4, hfz7_5, hfz7_6, hfz7_7, hfz7_8⟩ := fz9_ BK101.out; obtain ⟨hcz8_0, hcz8_1, hcz8_2, hcz8_3, hcz8_4, hcz8_5, hcz8_6, hcz8_7, hcz8_8⟩ := cz9_ BK102.out; obtain ⟨hfz8_0, hfz8_1, hfz8_2, hfz8_3, hfz8_4, hfz8_5, hfz8_6, hfz8_7, hfz8_8⟩ := fz9_ BK102.out))
 (try simp only [Act.put, lsa_, ls0_, ls1_])
 have H := HC3.out
 clear HC3
 by_cases c9 : a0_0.toList = a1_0.toList
 rotate_left
 ·rw [if_neg c9] at H
  have c9b0 : (a0_0.toList == a1_0.toList) = false := beq_eq_false_iff_ne.mpr c9
  have c9b1 : (a0_0.toList != a1_0.toList) = true := bne_iff_ne.mpr c9
  (first | rw [c9b0] | (simp only [i64_w, i32_w]; rw [c9b0]) | (simp only [c9b1, Bool.not_true, Bool.not_false]) | (simp only [c9b0, Bool.not_true, Bool.not_false]) | skip)
  obtain rfl := Option.some.inj H
  go_wp2
  go_ret
  exact ⟨by first | rfl | (simp [*, ai_, ah_] <;> rfl), by repeat (first | (with_reducible first | exact HB.out | apply bA_ | apply bN_ | apply bD_ | refine aa_ ?_ GE101.out | refine aa_ ?_ GE102.out))⟩
 rw [if_pos c9] at H
 have c9b0 : (a0_0.toList == a1_0.toList) = true := beq_iff_eq.mpr c9
 have c9b1 : (a0_0.toList != a1_0.toList) = false := bne_eq_false_iff_eq.mpr c9
 clear c9
 (first | rw [c9b0] | (simp only [i64_w, i32_w]; rw [c9b0]) | (simp only [c9b1, Bool.not_true, Bool.not_false]) | (simp only [c9b0, Bool.not_true, Bool.not_false]) | skip)
 by_cases c10 : a0_1.toList = a1_1.toList
 rotate_left
 ·rw [if_neg c10] at H
  have c10b0 : (a0_1.toList == a1_1.toList) = false := beq_eq_false_iff_ne.mpr c10
  have c10b1 : (a0_1.toList != a1_1.toList) = true := bne_iff_ne.mpr c10
  obtain rfl := Option.some.inj H
  have hnb37 := NB101_102.out
  have hnc37 := NB102_101.out
  obtain ⟨hcz38_0, hcz38_1, hcz38_2, hcz38_3, hcz38_4, hcz38_5, hcz38_6, hcz38_7, hcz38_8⟩ := cz9_ BK101.out
  obtain ⟨hfz38_0, hfz38_1, hfz38_2, hfz38_3, hfz38_4, hfz38_5, hfz38_6, hfz38_7, hfz38_8⟩ := fz9_ BK101.out
  obtain ⟨hcz39_0, hcz39_1, hcz39_2, hcz39_3, hcz39_4, hcz39_5, hcz39_6, hcz39_7, hcz39_8⟩ := cz9_ BK102.out
  obtain ⟨hfz39_0, hfz39_1, hfz39_2, hfz39_3, hfz39_4, hfz39_5, hfz39_6, hfz39_7, hfz39_8⟩ := fz9_ BK102.out
  go_wp2
  go_ret
  exact ⟨by first | rfl | (simp [*, ai_, ah_] <;> rfl), by repeat (first | (with_reducible first | exact HB.out | apply bA_ | apply bN_ | apply bD_ | refine aa_ ?_ GE101.out | refine aa_ ?_ GE102.out))⟩
 rw [if_pos c10] at H
 have c10b0 : (a0_1.toList == a1_1.toList) = true := beq_iff_eq.mpr c10
 have c10b1 : (a0_1.toList != a1_1.toList) = false := bne_eq_false_iff_eq.mpr c10
 clear c10
 by_cases c11 : a0_2 = a1_2
 rotate_left
 ·rw [if_neg c11] at H
  have c11b0 : (a0_2 == a1_2) = false := beq_eq_false_iff_ne.mpr c11
  have c11b1 : (a0_2 != a1_2) = true := bne_iff_ne.mpr c11
  obtain rfl := Option.some.inj H
  have hnb34 := NB101_102.out
  have hnc34 := NB102_101.out
  obtain ⟨hcz35_0, hcz35_1, hcz35_2, hcz35_3, hcz35_4, hcz35_5, hcz35_6, hcz35_7, hcz35_8⟩ := cz9_ BK101.out
  obtain ⟨hfz35_0, hfz35_1, hfz35_2, hfz35_3, hfz35_4, hfz35_5, hfz35_6, hfz35_7, hfz35_8⟩ := fz9_ BK101.out
  obtain ⟨hcz36_0, hcz36_1, hcz36_2, hcz36_3, hcz36_4, hcz36_5, hcz36_6, hcz36_7, hcz36_8⟩ := cz9_ BK102.out
  obtain ⟨hfz36_0, hfz36_1, hfz36_2, hfz36_3, hfz36_4, hfz36_5, hfz36_6, hfz36_7, hfz36_8⟩ := fz9_ BK102.out
  go_wp2
  go_ret
  exact ⟨by first | rfl | (simp [*, ai_, ah_] <;> rfl), by repeat (first | (with_reducible first | exact HB.out | apply bA_ | apply bN_ | apply bD_ | refine aa_ ?_ GE101.out | refine aa_ ?_ GE102.out))⟩
 rw [if_pos c11] at H
 have c11b0 : (a0_2 == a1_2) = true := beq_iff_eq.mpr c11
 have c11b1 : (a0_2 != a1_2) = false := bne_eq_false_iff_eq.mpr c11
 clear c11
 replace H := Option.bind_eq_some_iff.mp H
 obtain ⟨t103, A120, H⟩ := H
 (try dsimp only at H)
 have A12 := Aside0.mk A120
 clear A120
 have HC13 := Aside0.mk H
 clear H
 have hnb14 := NB101_102.out
 have hnc14 := NB102_101.out
 obtain ⟨hcz15_0, hcz15_1, hcz15_2, hcz15_3, hcz15_4, hcz15_5, hcz15_6, hcz15_7, hcz15_8⟩ := cz9_ BK101.out
 obtain ⟨hfz15_0, hfz15_1, hfz15_2, hfz15_3, hfz15_4, hfz15_5, hfz15_6, hfz15_7, hfz15_8⟩ := fz9_ BK101.out
 obtain ⟨hcz16_0, hcz16_1, hcz16_2, hcz16_3, hcz16_4, hcz16_5, hcz16_6, hcz16_7, hcz16_8⟩ := cz9_ BK102.out
 obtain ⟨hfz16_0, hfz16_1, hfz16_2, hfz16_3, hfz16_4, hfz16_5, hfz16_6, hfz16_7, hfz16_8⟩ := fz9_ BK102.out
 go_upto_if 25 with (first | ((with_reducible refine af_ (f := 40) rfl ?_); refine aJ_ (some 24) rfl rfl Tryz.func40 (by kernel_rfl) rfl #[.agg #[.string a0_3, .int .i64 a0_4, .int .i64 a0_5], .agg #[.string a1_3, .int .i64 a1_4, .int .i64 a1_5]] rfl (by first | rfl | (simp only [lma_, lmc_, lmn_]; first | done | rfl)) ?_; (with_reducible refine (cw_.calls a0_3 a0_4 a0_5 a1_3 a1_4 a1_5 t103 _ A12.out).mono ?_); rintro e w17 ⟨rfl, hb⟩; refine ⟨_, rfl, ?_⟩; replace BK101 := Aside0.mk (an_ (kz BK101.out) hb); replace BK102 := Aside0.mk (an_ (kz BK102.out) hb); replace HB := Aside0.mk (ac_ (by repeat (first | (with_reducible first | exact HB.out | apply bA_ | apply bN_ | apply bD_ | refine aa_ ?_ GE101.out | refine aa_ ?_ GE102.out))) hb); (try clear hb)))
 (try simp only [Act.put, lsa_, ls0_, ls1_])
 have H := HC13.out
 clear HC13
 by_cases c18 : t103 = true
 rotate_left
 ·replace c18 := Bool.eq_false_iff.mpr c18
  subst c18
  have H1 : (some false) = some r := by rw [if_neg (show ¬ (false = true) by decide)] at H; exact H
  clear H
  have H := H1
  clear H1
  obtain rfl := Option.some.inj H
  go_wp2
  go_ret
  exact ⟨by first | rfl | (simp [*, ai_, ah_] <;> rfl), by repeat (first | (with_reducible first | exact HB.out | apply bA_ | apply bN_ | apply bD_ | refine aa_ ?_ GE101.out | refine aa_ ?_ GE102.out))⟩
 subst c18
 have H1 : (if a0_6 = a1_6 then (if a0_7 = a1_7 then ((bj_.f k l0_8 l1_8).bind fun t104 => (if t104 = true then (some true) else (some false))) else (some false)) else (some false)) = some r := by rw [if_pos rfl] at H; exact H
 clear H
 have H := H1
 clear H1
 by_cases c19 : a0_6 = a1_6
 rotate_left
 ·rw [if_neg c19] at H
  have c19b0 : (a0_6 == a1_6) = false := beq_eq_false_iff_ne.mpr c19
  have c19b1 : (a0_6 != a1_6) = true := bne_iff_ne.mpr c19
  (first | rw [c19b0] | (simp only [i64_w, i32_w]; rw [c19b0]) | (simp only [c19b1, Bool.not_true, Bool.not_false]) | (simp only [c19b0, Bool.not_true, Bool.not_false]) | skip)
  obtain rfl := Option.some.inj H
  have hnb31 := NB101_102.out
  have hnc31 := NB102_101.out
  obtain ⟨hcz32_0, hcz32_1, hcz32_2, hcz32_3, hcz32_4, hcz32_5, hcz32_6, hcz32_7, hcz32_8⟩ := cz9_ BK101.out
  obtain ⟨hfz32_0, hfz32_1, hfz32_2, hfz32_3, hfz32_4, hfz32_5, hfz32_6, hfz32_7, hfz32_8⟩ := fz9_ BK101.out
  obtain ⟨hcz33_0, hcz33_1, hcz33_2, hcz33_3, hcz33_4, hcz33_5, hcz33_6, hcz33_7, hcz33_8⟩ := cz9_ BK102.out
  obtain ⟨hfz33_0, hfz33_1, hfz33_2, hfz33_3, hfz33_4, hfz33_5, hfz33_6, hfz33_7, hfz33_8⟩ := fz9_ BK102.out
  go_wp2
  go_ret
  exact ⟨by first | rfl | (simp [*, ai_, ah_] <;> rfl), by repeat (first | (with_reducible first | exact HB.out | apply bA_ | apply bN_ | apply bD_ | refine aa_ ?_ GE101.out | refine aa_ ?_ GE102.out))⟩
 rw [if_pos c19] at H
 have c19b0 : (a0_6 == a1_6) = true := beq_iff_eq.mpr c19
 have c19b1 : (a0_6 != a1_6) = false := bne_eq_false_iff_eq.mpr c19
 clear c19
 (first | rw [c19b0] | (simp only [i64_w, i32_w]; rw [c19b0]) | (simp only [c19b1, Bool.not_true, Bool.not_false]) | (simp only [c19b0, Bool.not_true, Bool.not_false]) | skip)
 by_cases c20 : a0_7 = a1_7
 rotate_left
 ·rw [if_neg c20] at H
  have c20b0 : (a0_7 == a1_7) = false := beq_eq_false_iff_ne.mpr c20
  have c20b1 : (a0_7 != a1_7) = true := bne_iff_ne.mpr c20
  obtain rfl := Option.some.inj H
  have hnb28 := NB101_102.out
  have hnc28 := NB102_101.out
  obtain ⟨hcz29_0, hcz29_1, hcz29_2, hcz29_3, hcz29_4, hcz29_5, hcz29_6, hcz29_7, hcz29_8⟩ := cz9_ BK101.out
  obtain ⟨hfz29_0, hfz29_1, hfz29_2, hfz29_3, hfz29_4, hfz29_5, hfz29_6, hfz29_7, hfz29_8⟩ := fz9_ BK101.out
  obtain ⟨hcz30_0, hcz30_1, hcz30_2, hcz30_3, hcz30_4, hcz30_5, hcz30_6, hcz30_7, hcz30_8⟩ := cz9_ BK102.out
  obtain ⟨hfz30_0, hfz30_1, hfz30_2, hfz30_3, hfz30_4, hfz30_5, hfz30_6, hfz30_7, hfz30_8⟩ := fz9_ BK102.out
  go_wp2
  go_ret
  exact ⟨by first | rfl | (simp [*, ai_, ah_] <;> rfl), by repeat (first | (with_reducible first | exact HB.out | apply bA_ | apply bN_ | apply bD_ | refine aa_ ?_ GE101.out | refine aa_ ?_ GE102.out))⟩
 rw [if_pos c20] at H
 have c20b0 : (a0_7 == a1_7) = true := beq_iff_eq.mpr c20
 have c20b1 : (a0_7 != a1_7) = false := bne_eq_false_iff_eq.mpr c20
 clear c20
 replace H := Option.bind_eq_some_iff.mp H
 obtain ⟨t104, A210, H⟩ := H
 (try dsimp only at H)
 have A21 := Aside0.mk A210
 clear A210
 have HC22 := Aside0.mk H
 clear H
 have hnb23 := NB101_102.out
 have hnc23 := NB102_101.out
 obtain ⟨hcz24_0, hcz24_1, hcz24_2, hcz24_3, hcz24_4, hcz24_5, hcz24_6, hcz24_7, hcz24_8⟩ := cz9_ BK101.out
 obtain ⟨hfz24_0, hfz24_1, hfz24_2, hfz24_3, hfz24_4, hfz24_5, hfz24_6, hfz24_7, hfz24_8⟩ := fz9_ BK101.out
 obtain ⟨hcz25_0, hcz25_1, hcz25_2, hcz25_3, hcz25_4, hcz25_5, hcz25_6, hcz25_7, hcz25_8⟩ := cz9_ BK102.out
 obtain ⟨hfz25_0, hfz25_1, hfz25_2, hfz25_3, hfz25_4, hfz25_5, hfz25_6, hfz25_7, hfz25_8⟩ := fz9_ BK102.out
 go_upto_if 41 with (first | ((with_reducible refine af_ (f := 41) rfl ?_); refine aJ_ (some 40) rfl rfl Tryz.func41 (by kernel_rfl) rfl #[.slice A0_8 l0_8.length c0_8, .slice A1_8 l1_8.length c1_8] rfl (by first | rfl | (simp only [lma_, lmc_, lmn_]; first | done | rfl)) ?_; (with_reducible refine (bj_.calls k _ _ l0_8 _ _ l1_8 t104 _ ?side1 ?side2 ?side3 ?side4 A21.out).mono ?_); (case side1 => repeat (first | exact (Kd.bU_ HR0_8.out (by repeat (first | (with_reducible first | exact HB.out | apply bA_ | apply bN_ | apply bD_ | refine aa_ ?_ GE101.out | refine aa_ ?_ GE102.out)))) | (with_reducible first | refine Kd.C_alloc ?_ _ | refine Kd.C_drewN ?_ _ | refine Kd.C_drew ?_))); (case side2 => exact HC0_8.out); (case side3 => repeat (first | exact (Kd.bU_ HR1_8.out (by repeat (first | (with_reducible first | exact HB.out | apply bA_ | apply bN_ | apply bD_ | refine aa_ ?_ GE101.out | refine aa_ ?_ GE102.out)))) | (with_reducible first | refine Kd.C_alloc ?_ _ | refine Kd.C_drewN ?_ _ | refine Kd.C_drew ?_))); (case side4 => exact HC1_8.out); rintro e w26 ⟨rfl, hb⟩; refine ⟨_, rfl, ?_⟩; replace BK101 := Aside0.mk (an_ (kz BK101.out) hb); replace BK102 := Aside0.mk (an_ (kz BK102.out) hb); replace HB := Aside0.mk (ac_ (by repeat (first | (with_reducible first | exact HB.out | apply bA_ | apply bN_ | apply bD_ | refine aa_ ?_ GE101.out | refine aa_ ?_ GE102.out))) hb); (try clear hb)))
 (try simp only [Act.put, lsa_, ls0_, ls1_])
 have H := HC22.out
 clear HC22
 by_cases c27 : t104 = true
 rotate_left
 ·replace c27 := Bool.eq_false_iff.mpr c27
  subst c27
  have H1 : (some false) = some r := by rw [if_neg (show ¬ (false = true) by decide)] at H; exact H
  clear H
  have H := H1
  clear H1
  obtain rfl := Option.some.inj H
  go_wp2
  go_ret
  exact ⟨by first | rfl | (simp [*, ai_, ah_] <;> rfl), by repeat (first | (with_reducible first | exact HB.out | apply bA_ | apply bN_ | apply bD_ | refine aa_ ?_ GE101.out | refine aa_ ?_ GE102.out))⟩
 subst c27
 have H1 : (some true) = some r := by rw [if_pos rfl] at H; exact H
 clear H
 have H := H1
 clear H1
 obtain rfl := Option.some.inj H
 go_wp2
 go_ret
 exact ⟨by first | rfl | (simp [*, ai_, ah_] <;> rfl), by repeat (first | (with_reducible first | exact HB.out | apply bA_ | apply bN_ | apply bD_ | refine aa_ ?_ GE101.out | refine aa_ ?_ GE102.out))⟩
def aQ_.l0 : Nat → List (S43) → List (S43) → Int → Option (Bool)
 | 0, _, _, _ => none
 | k + 1, x0, x1, x5 => if x5 < (x0.length : Int) then (if 0 ≤ x5 then (if x5 < (x1.length : Int) then ((cW_.f k ((ab_ x0 x5).f0) ((ab_ x0 x5).f1) ((ab_ x0 x5).f2) ((ab_ x0 x5).f3.f0) ((ab_ x0 x5).f3.f1) ((ab_ x0 x5).f3.f2) ((ab_ x0 x5).f4) ((ab_ x0 x5).f5) ((ab_ x0 x5).f6) ((ab_ x1 x5).f0) ((ab_ x1 x5).f1) ((ab_ x1 x5).f2) ((ab_ x1 x5).f3.f0) ((ab_ x1 x5).f3.f1) ((ab_ x1 x5).f3.f2) ((ab_ x1 x5).f4) ((ab_ x1 x5).f5) ((ab_ x1 x5).f6)).bind fun t103 => (if t103 = true then (aQ_.l0 k x0 x1 (wrap64 (x5 + 1))) else (some false))) else (none)) else (none)) else (some true)
def aQ_.f (k : Nat) (l0 : List (S43)) (l1 : List (S43)) : Option (Bool) := if (l0.length : Int) = (l1.length : Int) then (aQ_.l0 k l0 l1 0) else (some false)
def aQ_.T6 : Bool × List (List Nat × List Nat) := (true, [([], []), ([], []), ([0, 1], [0, 1]), ([2], [2]), ([], []), ([], []), ([4, 5], [4, 5]), ([6], [6]), ([3, 7], [3, 7]), ([8], [8])])
def aQ_.B6 : List Nat := [0, 0, 3, 7, 0, 0, 48, 112, 255, 511]
theorem aQ_.tab6 : rtab .any (opsOf Tryz.f8 6) = aQ_.T6 := by kernel_rfl
theorem aQ_.bits6 : cC_ aQ_.T6.2 aQ_.B6 = true := by kernel_rfl
set_option maxHeartbeats 8000000 in
set_option maxRecDepth 100000 in
theorem aQ_.calls (k : Nat) (A0 : Option Addr) (c0 : Nat) (l0 : List (S43)) (A1 : Option Addr) (c1 : Nat) (l1 : List (S43)) (r : Bool) (w : World) (hr0 : Kd.C k43 w A0 l0.length l0) (hc0 : l0.length ≤ c0) (hr1 : Kd.C k43 w A1 l1.length l1) (hc1 : l1.length ≤ c1) (h : aQ_.f k l0 l1 = some r) :
  Calls Tryz.prog 8 #[.slice A0 l0.length c0, .slice A1 l1.length c1] w fun e w' => e = .returned (.bool r) ∧ Below w.heap.size w w' := by
 have hu43 := Tryz.underlying43
 have HR0 := Aside0.mk hr0
 have HC0 := Aside0.mk hc0
 clear hr0 hc0
 have HR1 := Aside0.mk hr1
 have HC1 := Aside0.mk hc1
 clear hr1 hc1
 have HB := Aside0.mk (Below.refl w.heap.size w)
 have H : (if (l0.length : Int) = (l1.length : Int) then (aQ_.l0 k l0 l1 0) else (some false)) = some r := h
 clear h
 by_cases c3 : (l0.length : Int) = (l1.length : Int)
 rotate_left
 ·rw [if_neg c3] at H
  have c3b0 : ((l0.length : Int) == (l1.length : Int)) = false := beq_eq_false_iff_ne.mpr c3
  have c3b1 : ((l0.length : Int) != (l1.length : Int)) = true := bne_iff_ne.mpr c3
  have c3b2 : (l0.length == l1.length) = false := by first | simpa using c3 | (simp at c3 ⊢; omega)
  obtain rfl := Option.some.inj H
  go_enter Tryz.func8, Tryz.ntmps8
  go_wp2
  go_ret
  exact ⟨by first | rfl | (simp [*, ai_, ah_] <;> rfl), bz HB.out⟩
 rw [if_pos c3] at H
 have c3b0 : ((l0.length : Int) == (l1.length : Int)) = true := beq_iff_eq.mpr c3
 have c3b1 : ((l0.length : Int) != (l1.length : Int)) = false := bne_eq_false_iff_eq.mpr c3
 have c3b2 : (l0.length == l1.length) = true := by first | simpa using c3 | (simp at c3 ⊢; omega)
 clear c3
 have H' := Aside0.mk H
 clear H
 go_enter Tryz.func8, Tryz.ntmps8
 go_wp2
 (try simp only [Act.put, lsa_, ls0_, ls1_])
 go_loopg [5] k (fun kq v5 w' => ∃ (x5_1 : Int), v5 = .int .i64 x5_1 ∧ Aside0 (aQ_.l0 kq l0 l1 x5_1 = some r) ∧ Aside0 (kq ≤ k) ∧ Aside0 (Below w.heap.size w w'))
 case atStart => exact ⟨(0), (by first | rfl | (simp; done) | (simp [*]; done)), H', ⟨Nat.le_refl _⟩, ⟨bz HB.out⟩⟩
 case round =>
  clear H'
  obtain ⟨x5_1, rfl, HA, HK1, HB⟩ := hrel
  cases gk with
  | zero => exact absurd HA.out (by simp [aQ_.l0])
  | succ k1 =>
   have H := HA.out
   clear HA
   simp only [aQ_.l0] at H
   by_cases c4 : x5_1 < (l0.length : Int)
   rotate_left
   ·rw [if_neg c4] at H
    have c4b0 : decide (x5_1 < (l0.length : Int)) = false := decide_eq_false c4
    clear c4
    obtain rfl := Option.some.inj H
    go_wp2
    go_ret
    exact ⟨by first | rfl | (simp [*, ai_, ah_] <;> rfl), bz HB.out⟩
   rw [if_pos c4] at H
   have c4b0 : decide (x5_1 < (l0.length : Int)) = true := decide_eq_true c4
   clear c4
   by_cases c5 : 0 ≤ x5_1
   rotate_left
   ·rw [if_neg c5] at H
    exact absurd H (by simp)
   rw [if_pos c5] at H
   have c5b0 : decide (0 ≤ x5_1) = true := decide_eq_true c5
   clear c5
   by_cases c6 : x5_1 < (l1.length : Int)
   rotate_left
   ·rw [if_neg c6] at H
    exact absurd H (by simp)
   rw [if_pos c6] at H
   have c6b0 : decide (x5_1 < (l1.length : Int)) = true := decide_eq_true c6
   clear c6
   replace H := Option.bind_eq_some_iff.mp H
   obtain ⟨t103, A70, H⟩ := H
   (try dsimp only at H)
   have A7 := Aside0.mk A70
   clear A70
   have HC8 := Aside0.mk H
   clear H
   try go_wp2
   have n0_ := Aside0.mk (bD_ HB.out)
   clear HB
   have HB := n0_
   clear n0_
   have p101 : 0 ≤ (x5_1 : Int) := of_decide_eq_true (by assumption)
   have q101 : x5_1 < (l0.length : Int) := of_decide_eq_true (by assumption)
   obtain ⟨ad101, A101_8, c101_8, e101, hx101_0, hx101_1, hx101_2, hx101_3, hx101_4, hx101_5, hx101_6, hx101_7, hx101_8, hl101_8, hi101_8⟩ := bS_ HR0.out x5_1 p101 q101
   have hw101_8 := hx101_8
   have hw101_7 := hx101_7
   have hw101_6 := hx101_6
   have hw101_5 := hx101_5
   have hw101_4 := hx101_4
   have hw101_3 := hx101_3
   have hw101_2 := hx101_2
   have hw101_1 := hx101_1
   have hw101_0 := hx101_0
   cases e101
   replace hx101_0 := bu_ HB.out hx101_0
   replace hx101_1 := bu_ HB.out hx101_1
   replace hx101_2 := bu_ HB.out hx101_2
   replace hx101_3 := bu_ HB.out hx101_3
   replace hx101_4 := bu_ HB.out hx101_4
   replace hx101_5 := bu_ HB.out hx101_5
   replace hx101_6 := bu_ HB.out hx101_6
   replace hx101_7 := bu_ HB.out hx101_7
   replace hx101_8 := bu_ HB.out hx101_8
   have HR101_8 := Aside0.mk hi101_8
   have HC101_8 := Aside0.mk hl101_8
   clear hi101_8 hl101_8
   replace p101 := eq_true p101
   replace q101 := eq_true q101
   have p102 : 0 ≤ (x5_1 : Int) := of_decide_eq_true (by assumption)
   have q102 : x5_1 < (l1.length : Int) := of_decide_eq_true (by assumption)
   obtain ⟨ad102, A102_8, c102_8, e102, hx102_0, hx102_1, hx102_2, hx102_3, hx102_4, hx102_5, hx102_6, hx102_7, hx102_8, hl102_8, hi102_8⟩ := bS_ HR1.out x5_1 p102 q102
   have hw102_8 := hx102_8
   have hw102_7 := hx102_7
   have hw102_6 := hx102_6
   have hw102_5 := hx102_5
   have hw102_4 := hx102_4
   have hw102_3 := hx102_3
   have hw102_2 := hx102_2
   have hw102_1 := hx102_1
   have hw102_0 := hx102_0
   cases e102
   replace hx102_0 := bu_ HB.out hx102_0
   replace hx102_1 := bu_ HB.out hx102_1
   replace hx102_2 := bu_ HB.out hx102_2
   replace hx102_3 := bu_ HB.out hx102_3
   replace hx102_4 := bu_ HB.out hx102_4
   replace hx102_5 := bu_ HB.out hx102_5
   replace hx102_6 := bu_ HB.out hx102_6
   replace hx102_7 := bu_ HB.out hx102_7
   replace hx102_8 := bu_ HB.out hx102_8
   have HR102_8 := Aside0.mk hi102_8
   have HC102_8 := Aside0.mk hl102_8
   clear hi102_8 hl102_8
   replace p102 := eq_true p102
   replace q102 := eq_true q102
   refine start_ (n := 10) (S := fun w' => w'.cell? (ad101.add ((x5_1).toNat * 9)) = some (.string ((ab_ l0 x5_1).f0)) ∧ w'.cell? ⟨(ad101.add ((x5_1).toNat * 9)).block, (ad101.add ((x5_1).toNat * 9)).off + 1, none⟩ = some (.string ((ab_ l0 x5_1).f1)) ∧ w'.cell? ⟨(ad101.add ((x5_1).toNat * 9)).block, (ad101.add ((x5_1).toNat * 9)).off + 2, none⟩ = some (.int .i64 ((ab_ l0 x5_1).f2)) ∧ w'.cell? ⟨(ad101.add ((x5_1).toNat * 9)).block, (ad101.add ((x5_1).toNat * 9)).off + 3, none⟩ = some (.string ((ab_ l0 x5_1).f3.f0)) ∧ w'.cell? ⟨(ad101.add ((x5_1).toNat * 9)).block, (ad101.add ((x5_1).toNat * 9)).off + 4, none⟩ = some (.int .i64 ((ab_ l0 x5_1).f3.f1)) ∧ w'.cell? ⟨(ad101.add ((x5_1).toNat * 9)).block, (ad101.add ((x5_1).toNat * 9)).off + 5, none⟩ = some (.int .i64 ((ab_ l0 x5_1).f3.f2)) ∧ w'.cell? ⟨(ad101.add ((x5_1).toNat * 9)).block, (ad101.add ((x5_1).toNat * 9)).off + 6, none⟩ = some (.int .i64 ((ab_ l0 x5_1).f4)) ∧ w'.cell? ⟨(ad101.add ((x5_1).toNat * 9)).block, (ad101.add ((x5_1).toNat * 9)).off + 7, none⟩ = some (.int .i64 ((ab_ l0 x5_1).f5)) ∧ w'.cell? ⟨(ad101.add ((x5_1).toNat * 9)).block, (ad101.add ((x5_1).toNat * 9)).off + 8, none⟩ = some (.slice A101_8 ((ab_ l0 x5_1).f6).length c101_8) ∧ w'.cell? (ad102.add ((x5_1).toNat * 9)) = some (.string ((ab_ l1 x5_1).f0)) ∧ w'.cell? ⟨(ad102.add ((x5_1).toNat * 9)).block, (ad102.add ((x5_1).toNat * 9)).off + 1, none⟩ = some (.string ((ab_ l1 x5_1).f1)) ∧ w'.cell? ⟨(ad102.add ((x5_1).toNat * 9)).block, (ad102.add ((x5_1).toNat * 9)).off + 2, none⟩ = some (.int .i64 ((ab_ l1 x5_1).f2)) ∧ w'.cell? ⟨(ad102.add ((x5_1).toNat * 9)).block, (ad102.add ((x5_1).toNat * 9)).off + 3, none⟩ = some (.string ((ab_ l1 x5_1).f3.f0)) ∧ w'.cell? ⟨(ad102.add ((x5_1).toNat * 9)).block, (ad102.add ((x5_1).toNat * 9)).off + 4, none⟩ = some (.int .i64 ((ab_ l1 x5_1).f3.f1)) ∧ w'.cell? ⟨(ad102.add ((x5_1).toNat * 9)).block, (ad102.add ((x5_1).toNat * 9)).off + 5, none⟩ = some (.int .i64 ((ab_ l1 x5_1).f3.f2)) ∧ w'.cell? ⟨(ad102.add ((x5_1).toNat * 9)).block, (ad102.add ((x5_1).toNat * 9)).off + 6, none⟩ = some (.int .i64 ((ab_ l1 x5_1).f4)) ∧ w'.cell? ⟨(ad102.add ((x5_1).toNat * 9)).block, (ad102.add ((x5_1).toNat * 9)).off + 7, none⟩ = some (.int .i64 ((ab_ l1 x5_1).f5)) ∧ w'.cell? ⟨(ad102.add ((x5_1).toNat * 9)).block, (ad102.add ((x5_1).toNat * 9)).off + 8, none⟩ = some (.slice A102_8 ((ab_ l1 x5_1).f6).length c102_8)) (ds := []) #[f_,f_,f_,f_,f_,f_,f_,f_,f_,f_] (by kernel_rfl) rfl rfl ⟨(bu_ HB.out hw101_0), (bu_ HB.out hw101_1), (bu_ HB.out hw101_2), (bu_ HB.out hw101_3), (bu_ HB.out hw101_4), (bu_ HB.out hw101_5), (bu_ HB.out hw101_6), (bu_ HB.out hw101_7), (bu_ HB.out hw101_8), (bu_ HB.out hw102_0), (bu_ HB.out hw102_1), (bu_ HB.out hw102_2), (bu_ HB.out hw102_3), (bu_ HB.out hw102_4), (bu_ HB.out hw102_5), (bu_ HB.out hw102_6), (bu_ HB.out hw102_7), (bu_ HB.out hw102_8)⟩ (fun hHeld => ?_); refine cl_ aQ_.tab6 aQ_.bits6 (fun HT_ HW_ => ?_)
   generalize wr.drew = w9 at HB HR101_8 HR102_8 hx101_0 hx101_1 hx101_2 hx101_3 hx101_4 hx101_5 hx101_6 hx101_7 hx101_8 hx102_0 hx102_1 hx102_2 hx102_3 hx102_4 hx102_5 hx102_6 hx102_7 hx102_8 hHeld ⊢
   refine pure_ (i := 0) (N := some 17) (v := ?_) (a' := ?_) #[t_,f_,f_,f_,f_,f_,f_,f_,f_,f_] rfl rfl (aH_ HT_.out (by kernel_rfl)) (fun _ _ _ h => h) (Or.inl ⟨by rfl, ?_⟩) ?_ ?_
   rotate_left
   ·intro w'
    go_simp
    with_reducible rfl
   rotate_left
   ·simp only [Act.put, lsa_, ls0_, ls1_, i64_w, i32_w]
    rfl
   refine pure_ (i := 1) (N := some 18) (v := ?_) (a' := ?_) #[t_,t_,f_,f_,f_,f_,f_,f_,f_,f_] rfl rfl (aH_ HT_.out (by kernel_rfl)) (fun _ _ _ h => h) (Or.inl ⟨by rfl, ?_⟩) ?_ ?_
   rotate_left
   ·intro w'
    go_simp
    with_reducible rfl
   rotate_left
   ·simp only [Act.put, lsa_, ls0_, ls1_, i64_w, i32_w]
    rfl
   refine pure_ (i := 2) (N := some 19) (v := ?_) (a' := ?_) #[t_,t_,t_,f_,f_,f_,f_,f_,f_,f_] rfl rfl (aH_ HT_.out (by kernel_rfl)) (fun _ _ _ h => h) (Or.inl ⟨by rfl, ?_⟩) ?_ ?_
   rotate_left
   ·intro w'
    go_simp
    with_reducible rfl
   rotate_left
   ·simp only [Act.put, lsa_, ls0_, ls1_, i64_w, i32_w]
    rfl
   refine pure_ (i := 4) (N := some 21) (v := ?_) (a' := ?_) #[t_,t_,t_,f_,t_,f_,f_,f_,f_,f_] rfl rfl (aH_ HT_.out (by kernel_rfl)) (fun _ _ _ h => h) (Or.inl ⟨by rfl, ?_⟩) ?_ ?_
   rotate_left
   ·intro w'
    go_simp
    with_reducible rfl
   rotate_left
   ·simp only [Act.put, lsa_, ls0_, ls1_, i64_w, i32_w]
    rfl
   refine pure_ (i := 5) (N := some 22) (v := ?_) (a' := ?_) #[t_,t_,t_,f_,t_,t_,f_,f_,f_,f_] rfl rfl (aH_ HT_.out (by kernel_rfl)) (fun _ _ _ h => h) (Or.inl ⟨by rfl, ?_⟩) ?_ ?_
   rotate_left
   ·intro w'
    go_simp
    with_reducible rfl
   rotate_left
   ·simp only [Act.put, lsa_, ls0_, ls1_, i64_w, i32_w]
    rfl
   refine pure_ (i := 6) (N := some 23) (v := ?_) (a' := ?_) #[t_,t_,t_,f_,t_,t_,t_,f_,f_,f_] rfl rfl (aH_ HT_.out (by kernel_rfl)) (fun _ _ _ h => h) (Or.inl ⟨by rfl, ?_⟩) ?_ ?_
   rotate_left
   ·intro w'
    go_simp
    with_reducible rfl
   rotate_left
   ·simp only [Act.put, lsa_, ls0_, ls1_, i64_w, i32_w]
    rfl
   refine take_ (i := 3) (N := some 20) (v := ?_) (a' := ?_) #[t_,t_,t_,t_,t_,t_,t_,f_,f_,f_] rfl rfl (bt_ HT_.out HW_.out (by kernel_rfl)) (fun _ _ _ h => h) (Or.inl ⟨by rfl, ?_⟩) hHeld ?_ ?_
   rotate_left
   ·rintro w' ⟨s0, s1, s2, s3, s4, s5, s6, s7, s8, s9, s10, s11, s12, s13, s14, s15, s16, s17⟩
    go_simp
    with_reducible rfl
   rotate_left
   ·simp only [Act.put, lsa_, ls0_, ls1_, i64_w, i32_w]
    rfl
   refine take_ (i := 7) (N := some 24) (v := ?_) (a' := ?_) #[t_,t_,t_,t_,t_,t_,t_,t_,f_,f_] rfl rfl (bt_ HT_.out HW_.out (by kernel_rfl)) (fun _ _ _ h => h) (Or.inl ⟨by rfl, ?_⟩) hHeld ?_ ?_
   rotate_left
   ·rintro w' ⟨s0, s1, s2, s3, s4, s5, s6, s7, s8, s9, s10, s11, s12, s13, s14, s15, s16, s17⟩
    go_simp
    with_reducible rfl
   rotate_left
   ·simp only [Act.put, lsa_, ls0_, ls1_, i64_w, i32_w]
    rfl
   refine one_ (i := 8) (N := some 25) #[t_,t_,t_,t_,t_,t_,t_,t_,t_,f_] rfl rfl (ct_ HT_.out (by kernel_rfl)) (by decide) (fun K hK => ?_)
   (first | refine goes_ Tryz.func19 (by kernel_rfl) rfl #[.agg #[.string ((ab_ l0 x5_1).f0), .string ((ab_ l0 x5_1).f1), .int .i64 ((ab_ l0 x5_1).f2), .string ((ab_ l0 x5_1).f3.f0), .int .i64 ((ab_ l0 x5_1).f3.f1), .int .i64 ((ab_ l0 x5_1).f3.f2), .int .i64 ((ab_ l0 x5_1).f4), .int .i64 ((ab_ l0 x5_1).f5), .slice A101_8 ((ab_ l0 x5_1).f6).length c101_8], .agg #[.string ((ab_ l1 x5_1).f0), .string ((ab_ l1 x5_1).f1), .int .i64 ((ab_ l1 x5_1).f2), .string ((ab_ l1 x5_1).f3.f0), .int .i64 ((ab_ l1 x5_1).f3.f1), .int .i64 ((ab_ l1 x5_1).f3.f2), .int .i64 ((ab_ l1 x5_1).f4), .int .i64 ((ab_ l1 x5_1).f5), .slice A102_8 ((ab_ l1 x5_1).f6).length c102_8]] (by rfl) rfl rfl (by first | rfl | (simp only [lma_, lmc_, lmn_]; first | done | rfl)) ?_ | refine RPW.df_ Tryz.func19 (by kernel_rfl) rfl #[.agg #[.string ((ab_ l0 x5_1).f0), .string ((ab_ l0 x5_1).f1), .int .i64 ((ab_ l0 x5_1).f2), .string ((ab_ l0 x5_1).f3.f0), .int .i64 ((ab_ l0 x5_1).f3.f1), .int .i64 ((ab_ l0 x5_1).f3.f2), .int .i64 ((ab_ l0 x5_1).f4), .int .i64 ((ab_ l0 x5_1).f5), .slice A101_8 ((ab_ l0 x5_1).f6).length c101_8], .agg #[.string ((ab_ l1 x5_1).f0), .string ((ab_ l1 x5_1).f1), .int .i64 ((ab_ l1 x5_1).f2), .string ((ab_ l1 x5_1).f3.f0), .int .i64 ((ab_ l1 x5_1).f3.f1), .int .i64 ((ab_ l1 x5_1).f3.f2), .int .i64 ((ab_ l1 x5_1).f4), .int .i64 ((ab_ l1 x5_1).f5), .slice A102_8 ((ab_ l1 x5_1).f6).length c102_8]] (by rfl) rfl rfl rfl (by first | rfl | (simp only [lma_, lmc_, lmn_]; first | done | rfl)) ?_ | refine RPW.dg_ Tryz.func19 (by kernel_rfl) rfl #[.agg #[.string ((ab_ l0 x5_1).f0), .string ((ab_ l0 x5_1).f1), .int .i64 ((ab_ l0 x5_1).f2), .string ((ab_ l0 x5_1).f3.f0), .int .i64 ((ab_ l0 x5_1).f3.f1), .int .i64 ((ab_ l0 x5_1).f3.f2), .int .i64 ((ab_ l0 x5_1).f4), .int .i64 ((ab_ l0 x5_1).f5), .slice A101_8 ((ab_ l0 x5_1).f6).length c101_8], .agg #[.string ((ab_ l1 x5_1).f0), .string ((ab_ l1 x5_1).f1), .int .i64 ((ab_ l1 x5_1).f2), .string ((ab_ l1 x5_1).f3.f0), .int .i64 ((ab_ l1 x5_1).f3.f1), .int .i64 ((ab_ l1 x5_1).f3.f2), .int .i64 ((ab_ l1 x5_1).f4), .int .i64 ((ab_ l1 x5_1).f5), .slice A102_8 ((ab_ l1 x5_1).f6).length c102_8]] (by rfl) rfl rfl rfl (by first | rfl | (simp only [lma_, lmc_, lmn_]; first | done | rfl)) ?_)
   with_reducible refine (cW_.calls k1 ((ab_ l0 x5_1).f0) ((ab_ l0 x5_1).f1) ((ab_ l0 x5_1).f2) ((ab_ l0 x5_1).f3.f0) ((ab_ l0 x5_1).f3.f1) ((ab_ l0 x5_1).f3.f2) ((ab_ l0 x5_1).f4) ((ab_ l0 x5_1).f5) _ _ ((ab_ l0 x5_1).f6) ((ab_ l1 x5_1).f0) ((ab_ l1 x5_1).f1) ((ab_ l1 x5_1).f2) ((ab_ l1 x5_1).f3.f0) ((ab_ l1 x5_1).f3.f1) ((ab_ l1 x5_1).f3.f2) ((ab_ l1 x5_1).f4) ((ab_ l1 x5_1).f5) _ _ ((ab_ l1 x5_1).f6) t103 _ ?side1 ?side2 ?side3 ?side4 A7.out).mono ?_
   (case side1 => exact cz (Kd.bU_ HR101_8.out HB.out))
   (case side2 => exact HC101_8.out)
   (case side3 => exact cz (Kd.bU_ HR102_8.out HB.out))
   (case side4 => exact HC102_8.out)
   rintro e w10 ⟨rfl, hb⟩
   refine ⟨_, rfl, ?_⟩
   have n0_ := Aside0.mk (ac_ (bz HB.out) hb)
   clear HB
   have HB := n0_
   clear n0_
   (try clear hb)
   refine hK.out _ _ ⟨(bu_ HB.out hw101_0), (bu_ HB.out hw101_1), (bu_ HB.out hw101_2), (bu_ HB.out hw101_3), (bu_ HB.out hw101_4), (bu_ HB.out hw101_5), (bu_ HB.out hw101_6), (bu_ HB.out hw101_7), (bu_ HB.out hw101_8), (bu_ HB.out hw102_0), (bu_ HB.out hw102_1), (bu_ HB.out hw102_2), (bu_ HB.out hw102_3), (bu_ HB.out hw102_4), (bu_ HB.out hw102_5), (bu_ HB.out hw102_6), (bu_ HB.out hw102_7), (bu_ HB.out hw102_8)⟩ (fun hHeld => ?_)
   clear hK K
   refine norm_ (a' := ?_) ?_ ?_
   rotate_left
   ·show Act.put _ (some 25) _ = _
    simp only [Act.put, lsa_, ls0_, ls1_, i64_w, i32_w]
    rfl
   refine pure_ (i := 9) (N := some 26) (v := ?_) (a' := ?_) #[t_,t_,t_,t_,t_,t_,t_,t_,t_,t_] rfl rfl (aH_ HT_.out (by kernel_rfl)) (fun _ _ _ h => h) (Or.inl ⟨by rfl, ?_⟩) ?_ ?_
   rotate_left
   ·intro w'
    go_simp
    with_reducible rfl
   rotate_left
   ·simp only [Act.put, lsa_, ls0_, ls1_, i64_w, i32_w]
    rfl
   refine done_ (cN_ HT_.out (by kernel_rfl)) ?_
   go_upto_if 26 with (fail)
   have H := HC8.out
   clear HC8
   by_cases c11 : t103 = true
   rotate_left
   ·replace c11 := Bool.eq_false_iff.mpr c11
    subst c11
    have H1 : (some false) = some r := by rw [if_neg (show ¬ (false = true) by decide)] at H; exact H
    clear H
    have H := H1
    clear H1
    obtain rfl := Option.some.inj H
    go_wp2
    go_ret
    exact ⟨by first | rfl | (simp [*, ai_, ah_] <;> rfl), bz HB.out⟩
   subst c11
   have H1 : (aQ_.l0 k1 l0 l1 (wrap64 (x5_1 + 1))) = some r := by rw [if_pos rfl] at H; exact H
   clear H
   have H := H1
   clear H1
   have H' := Aside0.mk H
   clear H
   go_wp2
   go_roundg k1
   case measure => have := HK1.out; omega
   case rel => exact ⟨(wrap64 (x5_1 + 1)), (by first | rfl | (simp; done) | (simp [*]; done)), H', ⟨by have := HK1.out; omega⟩, ⟨bz HB.out⟩⟩
def cP_.f (a0_0 : ByteArray) (a0_1 : ByteArray) (a0_2 : ByteArray) (a1_0 : ByteArray) (a1_1 : ByteArray) (a1_2 : ByteArray) : Option (Bool) := if a0_0.toList = a1_0.toList then (if a0_1.toList = a1_1.toList then (if a0_2.toList = a1_2.toList then (some true) else (some false)) else (some false)) else (some false)
set_option maxHeartbeats 8000000 in
set_option maxRecDepth 100000 in
theorem cP_.calls (a0_0 : ByteArray) (a0_1 : ByteArray) (a0_2 : ByteArray) (a1_0 : ByteArray) (a1_1 : ByteArray) (a1_2 : ByteArray) (r : Bool) (w : World) (h : cP_.f a0_0 a0_1 a0_2 a1_0 a1_1 a1_2 = some r) :
  Calls Tryz.prog 20 #[.agg #[.string a0_0, .string a0_1, .string a0_2], .agg #[.string a1_0, .string a1_1, .string a1_2]] w fun e w' => e = .returned (.bool r) ∧ Below w.heap.size w w' := by
 have hu38 := Tryz.underlying38
 have HB := Aside0.mk (Below.refl w.heap.size w)
 have H : (if a0_0.toList = a1_0.toList then (if a0_1.toList = a1_1.toList then (if a0_2.toList = a1_2.toList then (some true) else (some false)) else (some false)) else (some false)) = some r := h
 clear h
 have HC3 := Aside0.mk H
 clear H
 go_enter Tryz.func20, Tryz.ntmps20
 go_upto_if 9 with (first | ((with_reducible refine aI_ (N := 2) rfl ?_); refine aR_ ?hg (N := 2) ?hd (cs := #[.string a0_0, .string a0_1, .string a0_2]) (t := 38) ?hr ?_; (case hd => rfl); (case hg => rfl); (case hr => (go_simp; try rfl)); intro gb101 hg w4 hbox hb; have BK101 := Aside0.mk (hbox); have GW101 := Aside0.mk ((by rw [hg]; exact (ad_ (bz HB.out)) : w.heap.size ≤ gb101)); have GE101 := Aside0.mk ((by rw [hg]; exact (ad_ (bz HB.out)) : w.heap.size ≤ gb101)); replace HB := Aside0.mk (ac_ (bz HB.out) hb); clear hb hbox hg) | ((with_reducible refine aI_ (N := 3) rfl ?_); refine aR_ ?hg (N := 3) ?hd (cs := #[.string a1_0, .string a1_1, .string a1_2]) (t := 38) ?hr ?_; (case hd => rfl); (case hg => rfl); (case hr => (go_simp; try rfl)); intro gb102 hg w5 hbox hb; have BK102 := Aside0.mk (hbox); have GW102 := Aside0.mk ((by rw [hg]; exact (ad_ (by repeat (first | (with_reducible first | exact HB.out | apply bA_ | apply bN_ | apply bD_ | refine aa_ ?_ GE101.out)))) : w.heap.size ≤ gb102)); have GE102 := Aside0.mk ((by rw [hg]; exact (ad_ (by repeat (first | (with_reducible first | exact HB.out | apply bA_ | apply bN_ | apply bD_ | refine aa_ ?_ GE101.out)))) : w.heap.size ≤ gb102)); replace HB := Aside0.mk (ac_ (by repeat (first | (with_reducible first | exact HB.out | apply bA_ | apply bN_ | apply bD_ | refine aa_ ?_ GE101.out))) hb); have NB101_102 := Aside0.mk ((by rw [hg]; exact Nat.ne_of_lt (bF_ (kz BK101.out)) : gb101 ≠ gb102)); have NB102_101 := Aside0.mk ((by rw [hg]; exact Nat.ne_of_gt (bF_ (kz BK101.out)) : gb102 ≠ gb101)); replace BK101 := Aside0.mk (an_ (kz BK101.out) hb); clear hb hbox hg; have hnb6 := NB101_102.out; have hnc6 := NB102_101.out; obtain ⟨hcz7_0, hcz7_1, hcz7_2⟩ := cz3_ BK101.out; obtain ⟨hfz7_0, hfz7_1, hfz7_2⟩ := fz3_ BK101.out; obtain ⟨hcz8_0, hcz8_1, hcz8_2⟩ := cz3_ BK102.out; obtain ⟨hfz8_0, hfz8_1, hfz8_2⟩ := fz3_ BK102.out))
 (try simp only [Act.put, lsa_, ls0_, ls1_])
 have H := HC3.out
 clear HC3
 by_cases c9 : a0_0.toList = a1_0.toList
 rotate_left
 ·rw [if_neg c9] at H
  have c9b0 : (a0_0.toList == a1_0.toList) = false := beq_eq_false_iff_ne.mpr c9
  have c9b1 : (a0_0.toList != a1_0.toList) = true := bne_iff_ne.mpr c9
  (first | rw [c9b0] | (simp only [i64_w, i32_w]; rw [c9b0]) | (simp only [c9b1, Bool.not_true, Bool.not_false]) | (simp only [c9b0, Bool.not_true, Bool.not_false]) | skip)
  obtain rfl := Option.some.inj H
  go_wp2
  go_ret
  exact ⟨by first | rfl | (simp [*, ai_, ah_] <;> rfl), by repeat (first | (with_reducible first | exact HB.out | apply bA_ | apply bN_ | apply bD_ | refine aa_ ?_ GE101.out | refine aa_ ?_ GE102.out))⟩
 rw [if_pos c9] at H
 have c9b0 : (a0_0.toList == a1_0.toList) = true := beq_iff_eq.mpr c9
 have c9b1 : (a0_0.toList != a1_0.toList) = false := bne_eq_false_iff_eq.mpr c9
 clear c9
 (first | rw [c9b0] | (simp only [i64_w, i32_w]; rw [c9b0]) | (simp only [c9b1, Bool.not_true, Bool.not_false]) | (simp only [c9b0, Bool.not_true, Bool.not_false]) | skip)
 by_cases c10 : a0_1.toList = a1_1.toList
 rotate_left
 ·rw [if_neg c10] at H
  have c10b0 : (a0_1.toList == a1_1.toList) = false := beq_eq_false_iff_ne.mpr c10
  have c10b1 : (a0_1.toList != a1_1.toList) = true := bne_iff_ne.mpr c10
  obtain rfl := Option.some.inj H
  have hnb18 := NB101_102.out
  have hnc18 := NB102_101.out
  obtain ⟨hcz19_0, hcz19_1, hcz19_2⟩ := cz3_ BK101.out
  obtain ⟨hfz19_0, hfz19_1, hfz19_2⟩ := fz3_ BK101.out
  obtain ⟨hcz20_0, hcz20_1, hcz20_2⟩ := cz3_ BK102.out
  obtain ⟨hfz20_0, hfz20_1, hfz20_2⟩ := fz3_ BK102.out
  go_wp2
  go_ret
  exact ⟨by first | rfl | (simp [*, ai_, ah_] <;> rfl), by repeat (first | (with_reducible first | exact HB.out | apply bA_ | apply bN_ | apply bD_ | refine aa_ ?_ GE101.out | refine aa_ ?_ GE102.out))⟩
 rw [if_pos c10] at H
 have c10b0 : (a0_1.toList == a1_1.toList) = true := beq_iff_eq.mpr c10
 have c10b1 : (a0_1.toList != a1_1.toList) = false := bne_eq_false_iff_eq.mpr c10
 clear c10
 by_cases c11 : a0_2.toList = a1_2.toList
 rotate_left
 ·rw [if_neg c11] at H
  have c11b0 : (a0_2.toList == a1_2.toList) = false := beq_eq_false_iff_ne.mpr c11
  have c11b1 : (a0_2.toList != a1_2.toList) = true := bne_iff_ne.mpr c11
  obtain rfl := Option.some.inj H
  have hnb15 := NB101_102.out
  have hnc15 := NB102_101.out
  obtain ⟨hcz16_0, hcz16_1, hcz16_2⟩ := cz3_ BK101.out
  obtain ⟨hfz16_0, hfz16_1, hfz16_2⟩ := fz3_ BK101.out
  obtain ⟨hcz17_0, hcz17_1, hcz17_2⟩ := cz3_ BK102.out
  obtain ⟨hfz17_0, hfz17_1, hfz17_2⟩ := fz3_ BK102.out
  go_wp2
  go_ret
  exact ⟨by first | rfl | (simp [*, ai_, ah_] <;> rfl), by repeat (first | (with_reducible first | exact HB.out | apply bA_ | apply bN_ | apply bD_ | refine aa_ ?_ GE101.out | refine aa_ ?_ GE102.out))⟩
 rw [if_pos c11] at H
 have c11b0 : (a0_2.toList == a1_2.toList) = true := beq_iff_eq.mpr c11
 have c11b1 : (a0_2.toList != a1_2.toList) = false := bne_eq_false_iff_eq.mpr c11
 clear c11
 obtain rfl := Option.some.inj H
 have hnb12 := NB101_102.out
 have hnc12 := NB102_101.out
 obtain ⟨hcz13_0, hcz13_1, hcz13_2⟩ := cz3_ BK101.out
 obtain ⟨hfz13_0, hfz13_1, hfz13_2⟩ := fz3_ BK101.out
 obtain ⟨hcz14_0, hcz14_1, hcz14_2⟩ := cz3_ BK102.out
 obtain ⟨hfz14_0, hfz14_1, hfz14_2⟩ := fz3_ BK102.out
 go_wp2
 go_ret
 exact ⟨by first | rfl | (simp [*, ai_, ah_] <;> rfl), by repeat (first | (with_reducible first | exact HB.out | apply bA_ | apply bN_ | apply bD_ | refine aa_ ?_ GE101.out | refine aa_ ?_ GE102.out))⟩
def aZ_.l0 : Nat → List (S38) → List (S38) → Int → Option (Bool)
 | 0, _, _, _ => none
 | k + 1, x0, x1, x5 => if x5 < (x0.length : Int) then (if 0 ≤ x5 then (if x5 < (x1.length : Int) then ((cP_.f ((ag_ x0 x5).f0) ((ag_ x0 x5).f1) ((ag_ x0 x5).f2) ((ag_ x1 x5).f0) ((ag_ x1 x5).f1) ((ag_ x1 x5).f2)).bind fun t103 => (if t103 = true then (aZ_.l0 k x0 x1 (wrap64 (x5 + 1))) else (some false))) else (none)) else (none)) else (some true)
def aZ_.f (k : Nat) (l0 : List (S38)) (l1 : List (S38)) : Option (Bool) := if (l0.length : Int) = (l1.length : Int) then (aZ_.l0 k l0 l1 0) else (some false)
def aZ_.T6 : Bool × List (List Nat × List Nat) := (true, [([], []), ([], []), ([0, 1], [0, 1]), ([2], [2]), ([], []), ([], []), ([4, 5], [4, 5]), ([6], [6]), ([3, 7], [3, 7]), ([8], [8])])
def aZ_.B6 : List Nat := [0, 0, 3, 7, 0, 0, 48, 112, 255, 511]
theorem aZ_.tab6 : rtab .any (opsOf Tryz.f9 6) = aZ_.T6 := by kernel_rfl
theorem aZ_.bits6 : cC_ aZ_.T6.2 aZ_.B6 = true := by kernel_rfl
set_option maxHeartbeats 8000000 in
set_option maxRecDepth 100000 in
theorem aZ_.calls (k : Nat) (A0 : Option Addr) (c0 : Nat) (l0 : List (S38)) (A1 : Option Addr) (c1 : Nat) (l1 : List (S38)) (r : Bool) (w : World) (hr0 : Kd.C k38 w A0 l0.length l0) (hc0 : l0.length ≤ c0) (hr1 : Kd.C k38 w A1 l1.length l1) (hc1 : l1.length ≤ c1) (h : aZ_.f k l0 l1 = some r) :
  Calls Tryz.prog 9 #[.slice A0 l0.length c0, .slice A1 l1.length c1] w fun e w' => e = .returned (.bool r) ∧ Below w.heap.size w w' := by
 have hu38 := Tryz.underlying38
 have HR0 := Aside0.mk hr0
 have HC0 := Aside0.mk hc0
 clear hr0 hc0
 have HR1 := Aside0.mk hr1
 have HC1 := Aside0.mk hc1
 clear hr1 hc1
 have HB := Aside0.mk (Below.refl w.heap.size w)
 have H : (if (l0.length : Int) = (l1.length : Int) then (aZ_.l0 k l0 l1 0) else (some false)) = some r := h
 clear h
 by_cases c3 : (l0.length : Int) = (l1.length : Int)
 rotate_left
 ·rw [if_neg c3] at H
  have c3b0 : ((l0.length : Int) == (l1.length : Int)) = false := beq_eq_false_iff_ne.mpr c3
  have c3b1 : ((l0.length : Int) != (l1.length : Int)) = true := bne_iff_ne.mpr c3
  have c3b2 : (l0.length == l1.length) = false := by first | simpa using c3 | (simp at c3 ⊢; omega)
  obtain rfl := Option.some.inj H
  go_enter Tryz.func9, Tryz.ntmps9
  go_wp2
  go_ret
  exact ⟨by first | rfl | (simp [*, ai_, ah_] <;> rfl), bz HB.out⟩
 rw [if_pos c3] at H
 have c3b0 : ((l0.length : Int) == (l1.length : Int)) = true := beq_iff_eq.mpr c3
 have c3b1 : ((l0.length : Int) != (l1.length : Int)) = false := bne_eq_false_iff_eq.mpr c3
 have c3b2 : (l0.length == l1.length) = true := by first | simpa using c3 | (simp at c3 ⊢; omega)
 clear c3
 have H' := Aside0.mk H
 clear H
 go_enter Tryz.func9, Tryz.ntmps9
 go_wp2
 (try simp only [Act.put, lsa_, ls0_, ls1_])
 go_loopg [5] k (fun kq v5 w' => ∃ (x5_1 : Int), v5 = .int .i64 x5_1 ∧ Aside0 (aZ_.l0 kq l0 l1 x5_1 = some r) ∧ Aside0 (kq ≤ k) ∧ Aside0 (Below w.heap.size w w'))
 case atStart => exact ⟨(0), (by first | rfl | (simp; done) | (simp [*]; done)), H', ⟨Nat.le_refl _⟩, ⟨bz HB.out⟩⟩
 case round =>
  clear H'
  obtain ⟨x5_1, rfl, HA, HK1, HB⟩ := hrel
  cases gk with
  | zero => exact absurd HA.out (by simp [aZ_.l0])
  | succ k1 =>
   have H := HA.out
   clear HA
   simp only [aZ_.l0] at H
   by_cases c4 : x5_1 < (l0.length : Int)
   rotate_left
   ·rw [if_neg c4] at H
    have c4b0 : decide (x5_1 < (l0.length : Int)) = false := decide_eq_false c4
    clear c4
    obtain rfl := Option.some.inj H
    go_wp2
    go_ret
    exact ⟨by first | rfl | (simp [*, ai_, ah_] <;> rfl), bz HB.out⟩
   rw [if_pos c4] at H
   have c4b0 : decide (x5_1 < (l0.length : Int)) = true := decide_eq_true c4
   clear c4
   by_cases c5 : 0 ≤ x5_1
   rotate_left
   ·rw [if_neg c5] at H
    exact absurd H (by simp)
   rw [if_pos c5] at H
   have c5b0 : decide (0 ≤ x5_1) = true := decide_eq_true c5
   clear c5
   by_cases c6 : x5_1 < (l1.length : Int)
   rotate_left
   ·rw [if_neg c6] at H
    exact absurd H (by simp)
   rw [if_pos c6] at H
   have c6b0 : decide (x5_1 < (l1.length : Int)) = true := decide_eq_true c6
   clear c6
   replace H := Option.bind_eq_some_iff.mp H
   obtain ⟨t103, A70, H⟩ := H
   (try dsimp only at H)
   have A7 := Aside0.mk A70
   clear A70
   have HC8 := Aside0.mk H
   clear H
   try go_wp2
   have n0_ := Aside0.mk (bD_ HB.out)
   clear HB
   have HB := n0_
   clear n0_
   have p101 : 0 ≤ (x5_1 : Int) := of_decide_eq_true (by assumption)
   have q101 : x5_1 < (l0.length : Int) := of_decide_eq_true (by assumption)
   obtain ⟨ad101, e101, hx101_0, hx101_1, hx101_2⟩ := bX_ HR0.out x5_1 p101 q101
   have hw101_2 := hx101_2
   have hw101_1 := hx101_1
   have hw101_0 := hx101_0
   cases e101
   replace hx101_0 := bu_ HB.out hx101_0
   replace hx101_1 := bu_ HB.out hx101_1
   replace hx101_2 := bu_ HB.out hx101_2
   replace p101 := eq_true p101
   replace q101 := eq_true q101
   have p102 : 0 ≤ (x5_1 : Int) := of_decide_eq_true (by assumption)
   have q102 : x5_1 < (l1.length : Int) := of_decide_eq_true (by assumption)
   obtain ⟨ad102, e102, hx102_0, hx102_1, hx102_2⟩ := bX_ HR1.out x5_1 p102 q102
   have hw102_2 := hx102_2
   have hw102_1 := hx102_1
   have hw102_0 := hx102_0
   cases e102
   replace hx102_0 := bu_ HB.out hx102_0
   replace hx102_1 := bu_ HB.out hx102_1
   replace hx102_2 := bu_ HB.out hx102_2
   replace p102 := eq_true p102
   replace q102 := eq_true q102
   refine start_ (n := 10) (S := fun w' => w'.cell? (ad101.add ((x5_1).toNat * 3)) = some (.string ((ag_ l0 x5_1).f0)) ∧ w'.cell? ⟨(ad101.add ((x5_1).toNat * 3)).block, (ad101.add ((x5_1).toNat * 3)).off + 1, none⟩ = some (.string ((ag_ l0 x5_1).f1)) ∧ w'.cell? ⟨(ad101.add ((x5_1).toNat * 3)).block, (ad101.add ((x5_1).toNat * 3)).off + 2, none⟩ = some (.string ((ag_ l0 x5_1).f2)) ∧ w'.cell? (ad102.add ((x5_1).toNat * 3)) = some (.string ((ag_ l1 x5_1).f0)) ∧ w'.cell? ⟨(ad102.add ((x5_1).toNat * 3)).block, (ad102.add ((x5_1).toNat * 3)).off + 1, none⟩ = some (.string ((ag_ l1 x5_1).f1)) ∧ w'.cell? ⟨(ad102.add ((x5_1).toNat * 3)).block, (ad102.add ((x5_1).toNat * 3)).off + 2, none⟩ = some (.string ((ag_ l1 x5_1).f2))) (ds := []) #[f_,f_,f_,f_,f_,f_,f_,f_,f_,f_] (by kernel_rfl) rfl rfl ⟨(bu_ HB.out hw101_0), (bu_ HB.out hw101_1), (bu_ HB.out hw101_2), (bu_ HB.out hw102_0), (bu_ HB.out hw102_1), (bu_ HB.out hw102_2)⟩ (fun hHeld => ?_); refine cl_ aZ_.tab6 aZ_.bits6 (fun HT_ HW_ => ?_)
   generalize wr.drew = w9 at HB hx101_0 hx101_1 hx101_2 hx102_0 hx102_1 hx102_2 hHeld ⊢
   refine pure_ (i := 0) (N := some 17) (v := ?_) (a' := ?_) #[t_,f_,f_,f_,f_,f_,f_,f_,f_,f_] rfl rfl (aH_ HT_.out (by kernel_rfl)) (fun _ _ _ h => h) (Or.inl ⟨by rfl, ?_⟩) ?_ ?_
   rotate_left
   ·intro w'
    go_simp
    with_reducible rfl
   rotate_left
   ·simp only [Act.put, lsa_, ls0_, ls1_, i64_w, i32_w]
    rfl
   refine pure_ (i := 1) (N := some 18) (v := ?_) (a' := ?_) #[t_,t_,f_,f_,f_,f_,f_,f_,f_,f_] rfl rfl (aH_ HT_.out (by kernel_rfl)) (fun _ _ _ h => h) (Or.inl ⟨by rfl, ?_⟩) ?_ ?_
   rotate_left
   ·intro w'
    go_simp
    with_reducible rfl
   rotate_left
   ·simp only [Act.put, lsa_, ls0_, ls1_, i64_w, i32_w]
    rfl
   refine pure_ (i := 2) (N := some 19) (v := ?_) (a' := ?_) #[t_,t_,t_,f_,f_,f_,f_,f_,f_,f_] rfl rfl (aH_ HT_.out (by kernel_rfl)) (fun _ _ _ h => h) (Or.inl ⟨by rfl, ?_⟩) ?_ ?_
   rotate_left
   ·intro w'
    go_simp
    with_reducible rfl
   rotate_left
   ·simp only [Act.put, lsa_, ls0_, ls1_, i64_w, i32_w]
    rfl
   refine pure_ (i := 4) (N := some 21) (v := ?_) (a' := ?_) #[t_,t_,t_,f_,t_,f_,f_,f_,f_,f_] rfl rfl (aH_ HT_.out (by kernel_rfl)) (fun _ _ _ h => h) (Or.inl ⟨by rfl, ?_⟩) ?_ ?_
   rotate_left
   ·intro w'
    go_simp
    with_reducible rfl
   rotate_left
   ·simp only [Act.put, lsa_, ls0_, ls1_, i64_w, i32_w]
    rfl
   refine pure_ (i := 5) (N := some 22) (v := ?_) (a' := ?_) #[t_,t_,t_,f_,t_,t_,f_,f_,f_,f_] rfl rfl (aH_ HT_.out (by kernel_rfl)) (fun _ _ _ h => h) (Or.inl ⟨by rfl, ?_⟩) ?_ ?_
   rotate_left
   ·intro w'
    go_simp
    with_reducible rfl
   rotate_left
   ·simp only [Act.put, lsa_, ls0_, ls1_, i64_w, i32_w]
    rfl
   refine pure_ (i := 6) (N := some 23) (v := ?_) (a' := ?_) #[t_,t_,t_,f_,t_,t_,t_,f_,f_,f_] rfl rfl (aH_ HT_.out (by kernel_rfl)) (fun _ _ _ h => h) (Or.inl ⟨by rfl, ?_⟩) ?_ ?_
   rotate_left
   ·intro w'
    go_simp
    with_reducible rfl
   rotate_left
   ·simp only [Act.put, lsa_, ls0_, ls1_, i64_w, i32_w]
    rfl
   refine take_ (i := 3) (N := some 20) (v := ?_) (a' := ?_) #[t_,t_,t_,t_,t_,t_,t_,f_,f_,f_] rfl rfl (bt_ HT_.out HW_.out (by kernel_rfl)) (fun _ _ _ h => h) (Or.inl ⟨by rfl, ?_⟩) hHeld ?_ ?_
   rotate_left
   ·rintro w' ⟨s0, s1, s2, s3, s4, s5⟩
    go_simp
    with_reducible rfl
   rotate_left
   ·simp only [Act.put, lsa_, ls0_, ls1_, i64_w, i32_w]
    rfl
   refine take_ (i := 7) (N := some 24) (v := ?_) (a' := ?_) #[t_,t_,t_,t_,t_,t_,t_,t_,f_,f_] rfl rfl (bt_ HT_.out HW_.out (by kernel_rfl)) (fun _ _ _ h => h) (Or.inl ⟨by rfl, ?_⟩) hHeld ?_ ?_
   rotate_left
   ·rintro w' ⟨s0, s1, s2, s3, s4, s5⟩
    go_simp
    with_reducible rfl
   rotate_left
   ·simp only [Act.put, lsa_, ls0_, ls1_, i64_w, i32_w]
    rfl
   refine one_ (i := 8) (N := some 25) #[t_,t_,t_,t_,t_,t_,t_,t_,t_,f_] rfl rfl (ct_ HT_.out (by kernel_rfl)) (by decide) (fun K hK => ?_)
   (first | refine goes_ Tryz.func20 (by kernel_rfl) rfl #[.agg #[.string ((ag_ l0 x5_1).f0), .string ((ag_ l0 x5_1).f1), .string ((ag_ l0 x5_1).f2)], .agg #[.string ((ag_ l1 x5_1).f0), .string ((ag_ l1 x5_1).f1), .string ((ag_ l1 x5_1).f2)]] (by rfl) rfl rfl (by first | rfl | (simp only [lma_, lmc_, lmn_]; first | done | rfl)) ?_ | refine RPW.df_ Tryz.func20 (by kernel_rfl) rfl #[.agg #[.string ((ag_ l0 x5_1).f0), .string ((ag_ l0 x5_1).f1), .string ((ag_ l0 x5_1).f2)], .agg #[.string ((ag_ l1 x5_1).f0), .string ((ag_ l1 x5_1).f1), .string ((ag_ l1 x5_1).f2)]] (by rfl) rfl rfl rfl (by first | rfl | (simp only [lma_, lmc_, lmn_]; first | done | rfl)) ?_ | refine RPW.dg_ Tryz.func20 (by kernel_rfl) rfl #[.agg #[.string ((ag_ l0 x5_1).f0), .string ((ag_ l0 x5_1).f1), .string ((ag_ l0 x5_1).f2)], .agg #[.string ((ag_ l1 x5_1).f0), .string ((ag_ l1 x5_1).f1), .string ((ag_ l1 x5_1).f2)]] (by rfl) rfl rfl rfl (by first | rfl | (simp only [lma_, lmc_, lmn_]; first | done | rfl)) ?_)
   with_reducible refine (cP_.calls ((ag_ l0 x5_1).f0) ((ag_ l0 x5_1).f1) ((ag_ l0 x5_1).f2) ((ag_ l1 x5_1).f0) ((ag_ l1 x5_1).f1) ((ag_ l1 x5_1).f2) t103 _ A7.out).mono ?_
   rintro e w10 ⟨rfl, hb⟩
   refine ⟨_, rfl, ?_⟩
   have n0_ := Aside0.mk (ac_ (bz HB.out) hb)
   clear HB
   have HB := n0_
   clear n0_
   (try clear hb)
   refine hK.out _ _ ⟨(bu_ HB.out hw101_0), (bu_ HB.out hw101_1), (bu_ HB.out hw101_2), (bu_ HB.out hw102_0), (bu_ HB.out hw102_1), (bu_ HB.out hw102_2)⟩ (fun hHeld => ?_)
   clear hK K
   refine norm_ (a' := ?_) ?_ ?_
   rotate_left
   ·show Act.put _ (some 25) _ = _
    simp only [Act.put, lsa_, ls0_, ls1_, i64_w, i32_w]
    rfl
   refine pure_ (i := 9) (N := some 26) (v := ?_) (a' := ?_) #[t_,t_,t_,t_,t_,t_,t_,t_,t_,t_] rfl rfl (aH_ HT_.out (by kernel_rfl)) (fun _ _ _ h => h) (Or.inl ⟨by rfl, ?_⟩) ?_ ?_
   rotate_left
   ·intro w'
    go_simp
    with_reducible rfl
   rotate_left
   ·simp only [Act.put, lsa_, ls0_, ls1_, i64_w, i32_w]
    rfl
   refine done_ (cN_ HT_.out (by kernel_rfl)) ?_
   go_upto_if 26 with (fail)
   have H := HC8.out
   clear HC8
   by_cases c11 : t103 = true
   rotate_left
   ·replace c11 := Bool.eq_false_iff.mpr c11
    subst c11
    have H1 : (some false) = some r := by rw [if_neg (show ¬ (false = true) by decide)] at H; exact H
    clear H
    have H := H1
    clear H1
    obtain rfl := Option.some.inj H
    go_wp2
    go_ret
    exact ⟨by first | rfl | (simp [*, ai_, ah_] <;> rfl), bz HB.out⟩
   subst c11
   have H1 : (aZ_.l0 k1 l0 l1 (wrap64 (x5_1 + 1))) = some r := by rw [if_pos rfl] at H; exact H
   clear H
   have H := H1
   clear H1
   have H' := Aside0.mk H
   clear H
   go_wp2
   go_roundg k1
   case measure => have := HK1.out; omega
   case rel => exact ⟨(wrap64 (x5_1 + 1)), (by first | rfl | (simp; done) | (simp [*]; done)), H', ⟨by have := HK1.out; omega⟩, ⟨bz HB.out⟩⟩
def aK_.l0 : Nat → Int → ByteArray → Option (ByteArray)
 | 0, _, _ => none
 | k + 1, x0, x3 => if x0 > 0 then ((some (([(wrap64 (48 + (Int.tmod x0 10))) % 256] : List Int) : List Int)).bind fun y101 => (if (strOfNums y101).size + x3.size ≤ 9223372036854775807 then (aK_.l0 k (wrap64 (Int.tdiv x0 10)) ((strOfNums y101) ++ x3)) else (none))) else (if 1 + x3.size ≤ 9223372036854775807 then (some ((⟨#[109]⟩ : ByteArray) ++ x3)) else (none))
def aK_.f (k : Nat) (a0 : Int) : Option (ByteArray) := if a0 ≤ 0 then (some (⟨#[109, 48]⟩ : ByteArray)) else (aK_.l0 k a0 (⟨#[]⟩ : ByteArray))
set_option maxHeartbeats 8000000 in
set_option maxRecDepth 100000 in
theorem aK_.calls (k : Nat) (a0 : Int) (r : ByteArray) (w : World) (h : aK_.f k a0 = some r) :
  Calls Tryz.prog 21 #[.int .i64 a0] w fun e w' => e = .returned (.string r) ∧ Below w.heap.size w w' := by
 have HB := Aside0.mk (Below.refl w.heap.size w)
 have H : (if a0 ≤ 0 then (some (⟨#[109, 48]⟩ : ByteArray)) else (aK_.l0 k a0 (⟨#[]⟩ : ByteArray))) = some r := h
 clear h
 by_cases c2 : a0 ≤ 0
 rotate_left
 ·rw [if_neg c2] at H
  have c2b0 : decide (a0 ≤ 0) = false := decide_eq_false c2
  clear c2
  have H' := Aside0.mk H
  clear H
  go_enter Tryz.func21, Tryz.ntmps21
  go_wp2
  (try simp only [Act.put, lsa_, ls0_, ls1_])
  go_loopg [0, 3] k (fun kq v0 v3 w' => ∃ (x0_1 : Int) (x3_1 : ByteArray), v0 = .int .i64 x0_1 ∧ v3 = .string x3_1 ∧ Aside0 (aK_.l0 kq x0_1 x3_1 = some r) ∧ Aside0 (kq ≤ k) ∧ Aside0 (Below w.heap.size w w'))
  case atStart => exact ⟨(a0), ((⟨#[]⟩ : ByteArray)), (by first | rfl | (simp; done) | (simp [*]; done)), (by first | rfl | (simp; done) | (simp [*]; done)), H', ⟨Nat.le_refl _⟩, ⟨bz HB.out⟩⟩
  case round =>
   clear H'
   obtain ⟨x0_1, x3_1, rfl, rfl, HA, HK1, HB⟩ := hrel
   cases gk with
   | zero => exact absurd HA.out (by simp [aK_.l0])
   | succ k1 =>
    have H := HA.out
    clear HA
    simp only [aK_.l0] at H
    by_cases c3 : x0_1 > 0
    rotate_left
    ·rw [if_neg c3] at H
     have c3b0 : decide (0 < x0_1) = false := decide_eq_false c3
     clear c3
     by_cases c8 : 1 + x3_1.size ≤ 9223372036854775807
     rotate_left
     ·rw [if_neg c8] at H
      exact absurd H (by simp)
     rw [if_pos c8] at H
     have c8b0 := eq_true c8
     have c8b1 : decide (1 + x3_1.size ≤ 9223372036854775807) = true := decide_eq_true c8
     try have c8b2 : (9223372036854775807 < 1 + x3_1.size) = False := eq_false (Nat.not_lt.2 c8)
     obtain rfl := Option.some.inj H
     go_wp2
     go_ret
     exact ⟨by first | rfl | (simp [*, ai_, ah_] <;> rfl), bz HB.out⟩
    rw [if_pos c3] at H
    have c3b0 : decide (0 < x0_1) = true := decide_eq_true c3
    clear c3
    obtain ⟨y101, hy101⟩ : ∃ y_ : List Int, y_ = (([(wrap64 (48 + (Int.tmod x0_1 10))) % 256] : List Int)) := ⟨_, rfl⟩
    replace H : (if (strOfNums y101).size + x3_1.size ≤ 9223372036854775807 then (aK_.l0 k1 (wrap64 (Int.tdiv x0_1 10)) ((strOfNums y101) ++ x3_1)) else (none)) = some r := by first | (rw [hy101]; with_reducible exact H) | (have H2_ := (Option.bind_some _ _).symm.trans H; rw [hy101]; with_reducible exact H2_) | (have H2_ := (Option.bind_some _ _).symm.trans H; with_reducible exact H2_) | with_reducible exact H | (rw [hy101]; exact H) | exact H
    have Ny101 := Aside0.mk hy101
    clear hy101
    by_cases c4 : (strOfNums y101).size + x3_1.size ≤ 9223372036854775807
    rotate_left
    ·rw [if_neg c4] at H
     exact absurd H (by simp)
    rw [if_pos c4] at H
    have c4b0 := eq_true c4
    have c4b1 : decide ((strOfNums y101).size + x3_1.size ≤ 9223372036854775807) = true := decide_eq_true c4
    try have c4b2 : (9223372036854775807 < (strOfNums y101).size + x3_1.size) = False := eq_false (Nat.not_lt.2 c4)
    have H' := Aside0.mk H
    clear H
    go_wp2_with (first | ((with_reducible refine aI_ (N := 12) rfl ?_); refine Kd.R_lit (Kd.int .u8) _ 5 ?hg (N := 12) ?hd (xs := ([(wrap64 (48 + (Int.tmod x0_1 10))) % 256] : List Int)) (inner := [.int .u8 ((wrap64 (48 + (Int.tmod x0_1 10))) % 256)]) (ok := fun _ => True) (okp := fun _ => True) ?hr ?hp (fun _ hk => hk) trivial (Below.refl _ _) (Nat.le_refl _) (by simp) ?_; (case hd => rfl); (case hg => rfl); (case hr => (go_simp; try rfl)); (case hp => exact (Reps.one (show Kd.M (Kd.int .u8) _ _ _ ((wrap64 (48 + (Int.tmod x0_1 10))) % 256) [.int .u8 ((wrap64 (48 + (Int.tmod x0_1 10))) % 256)] from rfl) (Reps.none _ _))); intro v102 w5 ho6 hb hg_ hnew_; clear hg_ hnew_; (first | rw [← Ny101.out] at ho6 | (simp only [Int.reduceToNat] at ho6; rw [← Ny101.out] at ho6)); have HO103 := Aside0.mk (Kd.bz_ ho6 (ad_ (bz HB.out))); replace HB := Aside0.mk (ac_ (bz HB.out) hb); clear hb ho6; have hcv7 := own_string (P := Tryz.prog) Tryz.underlying77 Tryz.underlying5 Tryz.underlying9 (Kd.own_of_R HO103.out)))
    go_roundg k1
    case measure => have := HK1.out; omega
    case rel => exact ⟨(wrap64 (Int.tdiv x0_1 10)), ((strOfNums y101) ++ x3_1), (by first | rfl | (simp; done) | (simp [*]; done)), (by first | rfl | (simp; done) | (simp [*]; done)), H', ⟨by have := HK1.out; omega⟩, ⟨bz HB.out⟩⟩
 rw [if_pos c2] at H
 have c2b0 : decide (a0 ≤ 0) = true := decide_eq_true c2
 clear c2
 obtain rfl := Option.some.inj H
 go_enter Tryz.func21, Tryz.ntmps21
 go_wp2
 go_ret
 exact ⟨by first | rfl | (simp [*, ai_, ah_] <;> rfl), bz HB.out⟩
def bb_.l0 : Nat → List (S38) → Int → Int → Option (Int × (List (S38)))
 | 0, _, _, _ => none
 | k + 1, x0, x1, x5 => if x5 < (x0.length : Int) then ((aK_.f k x1).bind fun t101 => (if 0 ≤ x5 then ((some (x0.set (x5 : Int).toNat (⟨t101, (ag_ x0 x5).f1, (ag_ x0 x5).f2⟩ : S38) : List (S38))).bind fun y102 => ((aK_.f k (wrap64 (x1 + 1))).bind fun t103 => ((some (y102.set (x5 : Int).toNat (⟨(ag_ y102 x5).f0, t103, (ag_ y102 x5).f2⟩ : S38) : List (S38))).bind fun y104 => ((aK_.f k (wrap64 ((wrap64 (x1 + 1)) + 1))).bind fun t105 => (bb_.l0 k (y104.set (x5 : Int).toNat (⟨(ag_ y104 x5).f0, (ag_ y104 x5).f1, t105⟩ : S38)) (wrap64 ((wrap64 ((wrap64 (x1 + 1)) + 1)) + 1)) (wrap64 (x5 + 1))))))) else (none))) else (some (x1, x0))
def bb_.f (k : Nat) (l0 : List (S38)) (a1 : Int) : Option (Int × (List (S38))) := bb_.l0 k l0 a1 0
set_option maxHeartbeats 8000000 in
set_option maxRecDepth 100000 in
theorem bb_.calls (k : Nat) (P0_ : Nat → Prop) (u9000_ : Value) (l0 : List (S38)) (a1 : Int) (r1 : Int) (r2 : List (S38)) (w0 w : World) (hB : Below w0.heap.size w0 w) (ho0 : Kd.R k38 38 w w0.heap.size P0_ u9000_ l0) (h : bb_.f k l0 a1 = some (r1, r2)) :
  Calls Tryz.prog 10 #[u9000_, .int .i64 a1] w fun e w' => e = .returned (.int .i64 r1) ∧ Kd.R k38 38 w' w0.heap.size (fun k_ => (P0_ k_ ∨ w.heap.size ≤ k_)) u9000_ r2 ∧ Below w0.heap.size w0 w' ∧ Kept w w' (fun k_ => P0_ k_) := by
 have HO0 := Aside0.mk (show Kd.R k38 38 w w0.heap.size (fun k_ => (P0_ k_ ∨ w.heap.size ≤ k_)) u9000_ l0 from Kd.bg_ ho0 (fun k_ hk => (.inl hk)))
 have HK := Aside0.mk (Kept.refl w (fun k_ => P0_ k_))
 have HW0 := Aside0.mk hB.size
 have HB := Aside0.mk hB
 clear hB
 have H : (bb_.l0 k l0 a1 0) = some (r1, r2) := h
 clear h
 have H' := Aside0.mk H
 clear H
 go_enter Tryz.func10, Tryz.ntmps10
 go_wp2
 (try simp only [Act.put, lsa_, ls0_, ls1_])
 go_loopg [1, 5] k (fun kq v1 v5 w' => ∃ (x0_1 : List (S38)) (x1_1 : Int) (x5_1 : Int), v1 = .int .i64 x1_1 ∧ v5 = .int .i64 x5_1 ∧ Aside0 (bb_.l0 kq x0_1 x1_1 x5_1 = some (r1, r2)) ∧ Aside0 (kq ≤ k) ∧ Aside0 (Kd.R k38 38 w' w0.heap.size (fun k_ => (P0_ k_ ∨ w.heap.size ≤ k_)) u9000_ x0_1) ∧ Aside0 (Kept w w' (fun k_ => P0_ k_)) ∧ Aside0 (Below w0.heap.size w0 w'))
 case atStart => exact ⟨(l0), (a1), (0), (by first | rfl | (simp; done) | (simp [*]; done)), (by first | rfl | (simp; done) | (simp [*]; done)), H', ⟨Nat.le_refl _⟩, ⟨rz HO0.out⟩, ⟨hz HK.out⟩, ⟨bz HB.out⟩⟩
 case round =>
  clear H'
  obtain ⟨x0_1, x1_1, x5_1, rfl, rfl, HA, HK1, HO_0, HK, HB⟩ := hrel
  cases gk with
  | zero => exact absurd HA.out (by simp [bb_.l0])
  | succ k1 =>
   have H := HA.out
   clear HA
   simp only [bb_.l0] at H
   by_cases c3 : x5_1 < (x0_1.length : Int)
   rotate_left
   ·rw [if_neg c3] at H
    have c3b0 : decide (x5_1 < (x0_1.length : Int)) = false := decide_eq_false c3
    clear c3
    simp only [Option.some.injEq, Prod.mk.injEq] at H
    obtain ⟨rfl, rfl⟩ := H
    obtain ⟨Ao21, co21, eo21⟩ := Kd.bv_ HO_0.out
    subst eo21
    go_wp2
    go_ret
    exact ⟨by first | rfl | (simp [*, ai_, ah_] <;> rfl), rz HO_0.out, bz HB.out, hz HK.out⟩
   rw [if_pos c3] at H
   have c3b0 : decide (x5_1 < (x0_1.length : Int)) = true := decide_eq_true c3
   clear c3
   replace H := Option.bind_eq_some_iff.mp H
   obtain ⟨t101, A40, H⟩ := H
   (try dsimp only at H)
   have A4 := Aside0.mk A40
   clear A40
   by_cases c5 : 0 ≤ x5_1
   rotate_left
   ·rw [if_neg c5] at H
    exact absurd H (by simp)
   rw [if_pos c5] at H
   have c5b0 : decide (0 ≤ x5_1) = true := decide_eq_true c5
   clear c5
   obtain ⟨y102, hy102⟩ : ∃ y_ : List (S38), y_ = (x0_1.set (x5_1 : Int).toNat (⟨t101, (ag_ x0_1 x5_1).f1, (ag_ x0_1 x5_1).f2⟩ : S38)) := ⟨_, rfl⟩
   replace H : ((aK_.f k1 (wrap64 (x1_1 + 1))).bind fun t103 => ((some (y102.set (x5_1 : Int).toNat (⟨(ag_ y102 x5_1).f0, t103, (ag_ y102 x5_1).f2⟩ : S38) : List (S38))).bind fun y104 => ((aK_.f k1 (wrap64 ((wrap64 (x1_1 + 1)) + 1))).bind fun t105 => (bb_.l0 k1 (y104.set (x5_1 : Int).toNat (⟨(ag_ y104 x5_1).f0, (ag_ y104 x5_1).f1, t105⟩ : S38)) (wrap64 ((wrap64 ((wrap64 (x1_1 + 1)) + 1)) + 1)) (wrap64 (x5_1 + 1)))))) = some (r1, r2) := by first | (rw [hy102]; with_reducible exact H) | (have H2_ := (Option.bind_some _ _).symm.trans H; rw [hy102]; with_reducible exact H2_) | (have H2_ := (Option.bind_some _ _).symm.trans H; with_reducible exact H2_) | with_reducible exact H | (rw [hy102]; exact H) | exact H
   have Ny102 := Aside0.mk hy102
   clear hy102
   replace H := Option.bind_eq_some_iff.mp H
   obtain ⟨t103, A70, H⟩ := H
   (try dsimp only at H)
   have A7 := Aside0.mk A70
   clear A70
   obtain ⟨y104, hy104⟩ : ∃ y_ : List (S38), y_ = (y102.set (x5_1 : Int).toNat (⟨(ag_ y102 x5_1).f0, t103, (ag_ y102 x5_1).f2⟩ : S38)) := ⟨_, rfl⟩
   replace H : ((aK_.f k1 (wrap64 ((wrap64 (x1_1 + 1)) + 1))).bind fun t105 => (bb_.l0 k1 (y104.set (x5_1 : Int).toNat (⟨(ag_ y104 x5_1).f0, (ag_ y104 x5_1).f1, t105⟩ : S38)) (wrap64 ((wrap64 ((wrap64 (x1_1 + 1)) + 1)) + 1)) (wrap64 (x5_1 + 1)))) = some (r1, r2) := by first | (rw [hy104]; with_reducible exact H) | (have H2_ := (Option.bind_some _ _).symm.trans H; rw [hy104]; with_reducible exact H2_) | (have H2_ := (Option.bind_some _ _).symm.trans H; with_reducible exact H2_) | with_reducible exact H | (rw [hy104]; exact H) | exact H
   have Ny104 := Aside0.mk hy104
   clear hy104
   replace H := Option.bind_eq_some_iff.mp H
   obtain ⟨t105, A90, H⟩ := H
   (try dsimp only at H)
   have A9 := Aside0.mk A90
   clear A90
   obtain ⟨y106, hy106⟩ : ∃ y_ : List (S38), y_ = (y104.set (x5_1 : Int).toNat (⟨(ag_ y104 x5_1).f0, (ag_ y104 x5_1).f1, t105⟩ : S38)) := ⟨_, rfl⟩
   replace H : (bb_.l0 k1 y106 (wrap64 ((wrap64 ((wrap64 (x1_1 + 1)) + 1)) + 1)) (wrap64 (x5_1 + 1))) = some (r1, r2) := by first | (rw [hy106]; with_reducible exact H) | (have H2_ := (Option.bind_some _ _).symm.trans H; rw [hy106]; with_reducible exact H2_) | (have H2_ := (Option.bind_some _ _).symm.trans H; with_reducible exact H2_) | with_reducible exact H | (rw [hy106]; exact H) | exact H
   have Ny106 := Aside0.mk hy106
   clear hy106
   have H' := Aside0.mk H
   clear H
   obtain ⟨Ao11, co11, eo11⟩ := Kd.bv_ HO_0.out
   subst eo11
   go_wp2_with (first | ((with_reducible refine af_ (f := 21) rfl ?_); refine aJ_ (some 15) rfl rfl Tryz.func21 (by kernel_rfl) rfl #[.int .i64 x1_1] rfl (by first | rfl | (simp only [lma_, lmc_, lmn_]; first | done | rfl)) ?_; (with_reducible refine (aK_.calls k1 x1_1 t101 _ A4.out).mono ?_); rintro e w12 ⟨rfl, hb⟩; refine ⟨_, rfl, ?_⟩; replace HO_0 := Aside0.mk (Kd.aV_ (rz HO_0.out) hb); replace HK := Aside0.mk (Kept.below (S := (fun k_ => P0_ k_)) (hz HK.out) hb); replace HB := Aside0.mk (ac_ (bz HB.out) hb); (try clear hb); have p6 : 0 ≤ (x5_1 : Int) := of_decide_eq_true (by assumption); have q6 : (x5_1 : Int) < ((x0_1.length : Int) : Int) := of_decide_eq_true (by assumption); obtain ⟨go6, co6, eo6, gb6, gl6, cl6, HG6⟩ := Kd.R_form HO_0.out (by omega); (first | cases eo6 | (injection eo6 with ea_ en_ ec_; (first | subst ea_ | (injection ea_ with ea_; subst ea_)); subst ec_; clear en_)); have GB6 := Aside0.mk gb6; have GG6 := Aside0.mk HG6; clear gb6 gl6 HG6; have HMgo6 := Aside0.mk (show (P0_ go6 ∨ w.heap.size ≤ go6) from (HO_0.out.1 _ rfl)); obtain ⟨ce6, hcl6, hM6, hcc6, hfr6⟩ := Kd.cU_ HO_0.out z38 (x5_1 : Int) p6 q6; obtain rfl := db_ hM6; have hx6_0 : w12.cell? ⟨go6, (x5_1 : Int).toNat * 3, none⟩ = some (.string ((ag_ x0_1 x5_1).f0)) := hcc6 0 _ rfl; have hx6_1 : w12.cell? ⟨go6, (x5_1 : Int).toNat * 3 + 1, none⟩ = some (.string ((ag_ x0_1 x5_1).f1)) := hcc6 1 _ rfl; have hx6_2 : w12.cell? ⟨go6, (x5_1 : Int).toNat * 3 + 2, none⟩ = some (.string ((ag_ x0_1 x5_1).f2)) := hcc6 2 _ rfl; have hf6_0 : w12.frozen? ⟨go6, (x5_1 : Int).toNat * 3, none⟩ = false := hfr6 0; have hf6_1 : w12.frozen? ⟨go6, (x5_1 : Int).toNat * 3 + 1, none⟩ = false := hfr6 1; have hf6_2 : w12.frozen? ⟨go6, (x5_1 : Int).toNat * 3 + 2, none⟩ = false := hfr6 2; clear hcl6 hcc6 hfr6 hM6; replace p6 := eq_true p6; replace q6 := eq_true q6; have HX13 := Aside0.mk (show Kd.R k38 38 w12 w0.heap.size (fun k_ => (P0_ k_ ∨ w.heap.size ≤ k_)) (.slice (some ⟨go6, 0, none⟩) x0_1.length co11) x0_1 from (rz HO_0.out)); obtain ⟨ce13, hcl13, hM13, hcc13, hfr13⟩ := Kd.cU_ HX13.out z38 (x5_1 : Int) (of_decide_eq_true (by assumption)) (by have h_ : (x5_1 : Int) < ((x0_1.length : Int) : Int) := of_decide_eq_true (by assumption); first | exact h_ | (have e_ := (Kd.av_ HO_0.out).1; omega) | simpa using h_); obtain rfl := db_ hM13; have HP13 := Kd.R_seg HX13.out (x5_1 : Int) (of_decide_eq_true (by assumption)) (by have h_ : (x5_1 : Int) < ((x0_1.length : Int) : Int) := of_decide_eq_true (by assumption); first | exact h_ | (have e_ := (Kd.av_ HO_0.out).1; omega) | simpa using h_) (seg := [.string t101]) (j := 0) hcl13 hcc13 (show 1 ≤ 3 from by decide) (x' := (⟨t101, (ag_ x0_1 x5_1).f1, (ag_ x0_1 x5_1).f2⟩ : S38)) (k38_mkM _ _ _ (⟨t101, (ag_ x0_1 x5_1).f1, (ag_ x0_1 x5_1).f2⟩ : S38) ) (fun _ hk => hk); have hx13_0 := hcc13 0 _ rfl; (try simp only [show (k38).sz = 3 from rfl, Nat.mul_one, Nat.add_zero] at hx13_0); have hf13_0 := hfr13 0; (try simp only [show (k38).sz = 3 from rfl, Nat.mul_one, Nat.add_zero] at hf13_0); clear hcl13 hcc13 hfr13 hM13) | ((with_reducible refine bJ_ (t := 9) (p := 17) rfl ?_); refine by_ (t := 9) (p := 17) (v := ?vo_w14) (w1 := (w12.setCell ⟨go6, (x5_1 : Int).toNat * 3, none⟩ (.string t101))) ?hg ?ho ?hn ?hr ?_; (case ho => rfl); (case hg => rfl); (case hn => rfl); (case hr => (go_simp; try rfl)); intro w14 hw; have hg : w12.grownBy w14 (some go6) := (by rw [hw]; exact HP13.2); have hp_ : Kd.R k38 38 w14 w0.heap.size (fun k_ => (P0_ k_ ∨ w.heap.size ≤ k_)) (.slice (some ⟨go6, 0, none⟩) x0_1.length co11) y102 := (by rw [hw, Ny102.out]; exact HP13.1); clear HP13; replace HB := Aside0.mk ((by rw [hw]; exact aa_ (HB.out) GB6.out : Below w0.heap.size w0 w14)); replace HK := Aside0.mk (Kept.cy_ (S := (fun k_ => P0_ k_)) hg (hz HK.out) (fun k_ e_ => (HO_0.out.1 k_ e_))); replace HO_0 := Aside0.mk (hp_); clear hg hw hp_) | ((with_reducible refine af_ (f := 21) rfl ?_); refine aJ_ (some 23) rfl rfl Tryz.func21 (by kernel_rfl) rfl #[.int .i64 (wrap64 (x1_1 + 1))] rfl (by first | rfl | (simp only [lma_, lmc_, lmn_]; first | done | rfl)) ?_; (with_reducible refine (aK_.calls k1 (wrap64 (x1_1 + 1)) t103 _ A7.out).mono ?_); rintro e w15 ⟨rfl, hb⟩; refine ⟨_, rfl, ?_⟩; replace HO_0 := Aside0.mk (Kd.aV_ (rz HO_0.out) hb); replace HK := Aside0.mk (Kept.below (S := (fun k_ => P0_ k_)) (hz HK.out) hb); replace HB := Aside0.mk (ac_ (bz HB.out) hb); (try clear hb); have p8 : 0 ≤ (x5_1 : Int) := of_decide_eq_true (by assumption); have q8 : (x5_1 : Int) < ((x0_1.length : Int) : Int) := of_decide_eq_true (by assumption); obtain ⟨ce8, hcl8, hM8, hcc8, hfr8⟩ := Kd.cU_ HO_0.out z38 (x5_1 : Int) p8 q8; obtain rfl := db_ hM8; have hx8_0 : w15.cell? ⟨go6, (x5_1 : Int).toNat * 3, none⟩ = some (.string ((ag_ y102 x5_1).f0)) := hcc8 0 _ rfl; have hx8_1 : w15.cell? ⟨go6, (x5_1 : Int).toNat * 3 + 1, none⟩ = some (.string ((ag_ y102 x5_1).f1)) := hcc8 1 _ rfl; have hx8_2 : w15.cell? ⟨go6, (x5_1 : Int).toNat * 3 + 2, none⟩ = some (.string ((ag_ y102 x5_1).f2)) := hcc8 2 _ rfl; have hf8_0 : w15.frozen? ⟨go6, (x5_1 : Int).toNat * 3, none⟩ = false := hfr8 0; have hf8_1 : w15.frozen? ⟨go6, (x5_1 : Int).toNat * 3 + 1, none⟩ = false := hfr8 1; have hf8_2 : w15.frozen? ⟨go6, (x5_1 : Int).toNat * 3 + 2, none⟩ = false := hfr8 2; clear hcl8 hcc8 hfr8 hM8; replace p8 := eq_true p8; replace q8 := eq_true q8; have HX16 := Aside0.mk (show Kd.R k38 38 w15 w0.heap.size (fun k_ => (P0_ k_ ∨ w.heap.size ≤ k_)) (.slice (some ⟨go6, 0, none⟩) x0_1.length co11) y102 from (rz HO_0.out)); obtain ⟨ce16, hcl16, hM16, hcc16, hfr16⟩ := Kd.cU_ HX16.out z38 (x5_1 : Int) (of_decide_eq_true (by assumption)) (by have h_ : (x5_1 : Int) < ((x0_1.length : Int) : Int) := of_decide_eq_true (by assumption); first | exact h_ | (have e_ := (Kd.av_ HO_0.out).1; omega) | simpa using h_); obtain rfl := db_ hM16; have HP16 := Kd.R_seg HX16.out (x5_1 : Int) (of_decide_eq_true (by assumption)) (by have h_ : (x5_1 : Int) < ((x0_1.length : Int) : Int) := of_decide_eq_true (by assumption); first | exact h_ | (have e_ := (Kd.av_ HO_0.out).1; omega) | simpa using h_) (seg := [.string t103]) (j := 1) hcl16 hcc16 (show 2 ≤ 3 from by decide) (x' := (⟨(ag_ y102 x5_1).f0, t103, (ag_ y102 x5_1).f2⟩ : S38)) (k38_mkM _ _ _ (⟨(ag_ y102 x5_1).f0, t103, (ag_ y102 x5_1).f2⟩ : S38) ) (fun _ hk => hk); have hx16_1 := hcc16 1 _ rfl; (try simp only [show (k38).sz = 3 from rfl, Nat.mul_one, Nat.add_zero] at hx16_1); have hf16_1 := hfr16 1; (try simp only [show (k38).sz = 3 from rfl, Nat.mul_one, Nat.add_zero] at hf16_1); clear hcl16 hcc16 hfr16 hM16) | ((with_reducible refine bJ_ (t := 9) (p := 25) rfl ?_); refine by_ (t := 9) (p := 25) (v := ?vo_w17) (w1 := (w15.setCell ⟨go6, (x5_1 : Int).toNat * 3 + 1, none⟩ (.string t103))) ?hg ?ho ?hn ?hr ?_; (case ho => rfl); (case hg => rfl); (case hn => rfl); (case hr => (go_simp; try rfl)); intro w17 hw; have hg : w15.grownBy w17 (some go6) := (by rw [hw]; exact HP16.2); have hp_ : Kd.R k38 38 w17 w0.heap.size (fun k_ => (P0_ k_ ∨ w.heap.size ≤ k_)) (.slice (some ⟨go6, 0, none⟩) x0_1.length co11) y104 := (by rw [hw, Ny104.out]; exact HP16.1); clear HP16; replace HB := Aside0.mk ((by rw [hw]; exact aa_ (HB.out) GB6.out : Below w0.heap.size w0 w17)); replace HK := Aside0.mk (Kept.cy_ (S := (fun k_ => P0_ k_)) hg (hz HK.out) (fun k_ e_ => (HO_0.out.1 k_ e_))); replace HO_0 := Aside0.mk (hp_); clear hg hw hp_) | ((with_reducible refine af_ (f := 21) rfl ?_); refine aJ_ (some 31) rfl rfl Tryz.func21 (by kernel_rfl) rfl #[.int .i64 (wrap64 ((wrap64 (x1_1 + 1)) + 1))] rfl (by first | rfl | (simp only [lma_, lmc_, lmn_]; first | done | rfl)) ?_; (with_reducible refine (aK_.calls k1 (wrap64 ((wrap64 (x1_1 + 1)) + 1)) t105 _ A9.out).mono ?_); rintro e w18 ⟨rfl, hb⟩; refine ⟨_, rfl, ?_⟩; replace HO_0 := Aside0.mk (Kd.aV_ (rz HO_0.out) hb); replace HK := Aside0.mk (Kept.below (S := (fun k_ => P0_ k_)) (hz HK.out) hb); replace HB := Aside0.mk (ac_ (bz HB.out) hb); (try clear hb); have p10 : 0 ≤ (x5_1 : Int) := of_decide_eq_true (by assumption); have q10 : (x5_1 : Int) < ((x0_1.length : Int) : Int) := of_decide_eq_true (by assumption); obtain ⟨ce10, hcl10, hM10, hcc10, hfr10⟩ := Kd.cU_ HO_0.out z38 (x5_1 : Int) p10 q10; obtain rfl := db_ hM10; have hx10_0 : w18.cell? ⟨go6, (x5_1 : Int).toNat * 3, none⟩ = some (.string ((ag_ y104 x5_1).f0)) := hcc10 0 _ rfl; have hx10_1 : w18.cell? ⟨go6, (x5_1 : Int).toNat * 3 + 1, none⟩ = some (.string ((ag_ y104 x5_1).f1)) := hcc10 1 _ rfl; have hx10_2 : w18.cell? ⟨go6, (x5_1 : Int).toNat * 3 + 2, none⟩ = some (.string ((ag_ y104 x5_1).f2)) := hcc10 2 _ rfl; have hf10_0 : w18.frozen? ⟨go6, (x5_1 : Int).toNat * 3, none⟩ = false := hfr10 0; have hf10_1 : w18.frozen? ⟨go6, (x5_1 : Int).toNat * 3 + 1, none⟩ = false := hfr10 1; have hf10_2 : w18.frozen? ⟨go6, (x5_1 : Int).toNat * 3 + 2, none⟩ = false := hfr10 2; clear hcl10 hcc10 hfr10 hM10; replace p10 := eq_true p10; replace q10 := eq_true q10; have HX19 := Aside0.mk (show Kd.R k38 38 w18 w0.heap.size (fun k_ => (P0_ k_ ∨ w.heap.size ≤ k_)) (.slice (some ⟨go6, 0, none⟩) x0_1.length co11) y104 from (rz HO_0.out)); obtain ⟨ce19, hcl19, hM19, hcc19, hfr19⟩ := Kd.cU_ HX19.out z38 (x5_1 : Int) (of_decide_eq_true (by assumption)) (by have h_ : (x5_1 : Int) < ((x0_1.length : Int) : Int) := of_decide_eq_true (by assumption); first | exact h_ | (have e_ := (Kd.av_ HO_0.out).1; omega) | simpa using h_); obtain rfl := db_ hM19; have HP19 := Kd.R_seg HX19.out (x5_1 : Int) (of_decide_eq_true (by assumption)) (by have h_ : (x5_1 : Int) < ((x0_1.length : Int) : Int) := of_decide_eq_true (by assumption); first | exact h_ | (have e_ := (Kd.av_ HO_0.out).1; omega) | simpa using h_) (seg := [.string t105]) (j := 2) hcl19 hcc19 (show 3 ≤ 3 from by decide) (x' := (⟨(ag_ y104 x5_1).f0, (ag_ y104 x5_1).f1, t105⟩ : S38)) (k38_mkM _ _ _ (⟨(ag_ y104 x5_1).f0, (ag_ y104 x5_1).f1, t105⟩ : S38) ) (fun _ hk => hk); have hx19_2 := hcc19 2 _ rfl; (try simp only [show (k38).sz = 3 from rfl, Nat.mul_one, Nat.add_zero] at hx19_2); have hf19_2 := hfr19 2; (try simp only [show (k38).sz = 3 from rfl, Nat.mul_one, Nat.add_zero] at hf19_2); clear hcl19 hcc19 hfr19 hM19) | ((with_reducible refine bJ_ (t := 9) (p := 33) rfl ?_); refine by_ (t := 9) (p := 33) (v := ?vo_w20) (w1 := (w18.setCell ⟨go6, (x5_1 : Int).toNat * 3 + 2, none⟩ (.string t105))) ?hg ?ho ?hn ?hr ?_; (case ho => rfl); (case hg => rfl); (case hn => rfl); (case hr => (go_simp; try rfl)); intro w20 hw; have hg : w18.grownBy w20 (some go6) := (by rw [hw]; exact HP19.2); have hp_ : Kd.R k38 38 w20 w0.heap.size (fun k_ => (P0_ k_ ∨ w.heap.size ≤ k_)) (.slice (some ⟨go6, 0, none⟩) x0_1.length co11) y106 := (by rw [hw, Ny106.out]; exact HP19.1); clear HP19; replace HB := Aside0.mk ((by rw [hw]; exact aa_ (HB.out) GB6.out : Below w0.heap.size w0 w20)); replace HK := Aside0.mk (Kept.cy_ (S := (fun k_ => P0_ k_)) hg (hz HK.out) (fun k_ e_ => (HO_0.out.1 k_ e_))); replace HO_0 := Aside0.mk (hp_); clear hg hw hp_))
   go_roundg k1
   case measure => have := HK1.out; omega
   case rel => exact ⟨(y106), (wrap64 ((wrap64 ((wrap64 (x1_1 + 1)) + 1)) + 1)), (wrap64 (x5_1 + 1)), (by first | rfl | (simp; done) | (simp [*]; done)), (by first | rfl | (simp; done) | (simp [*]; done)), H', ⟨by have := HK1.out; omega⟩, ⟨rz HO_0.out⟩, ⟨hz HK.out⟩, ⟨bz HB.out⟩⟩
def bq_.l0 : Nat → List (S66) → Int → Int → Option (Int × (List (S66)))
 | 0, _, _, _ => none
 | k + 1, x0, x1, x5 => if x5 < (x0.length : Int) then (if 0 ≤ x5 then ((some (x0.set (x5 : Int).toNat (⟨x1, (al_ x0 x5).f1, (al_ x0 x5).f2, (al_ x0 x5).f3⟩ : S66) : List (S66))).bind fun y101 => ((some (y101.set (x5 : Int).toNat (⟨(al_ y101 x5).f0, wrap64 (x1 + 1), (al_ y101 x5).f2, (al_ y101 x5).f3⟩ : S66) : List (S66))).bind fun y102 => ((some (y102.set (x5 : Int).toNat (⟨(al_ y102 x5).f0, (al_ y102 x5).f1, wrap64 ((wrap64 (x1 + 1)) + 1), (al_ y102 x5).f3⟩ : S66) : List (S66))).bind fun y103 => (bq_.l0 k (y103.set (x5 : Int).toNat (⟨(al_ y103 x5).f0, (al_ y103 x5).f1, (al_ y103 x5).f2, wrap64 ((wrap64 ((wrap64 (x1 + 1)) + 1)) + 1)⟩ : S66)) (wrap64 ((wrap64 ((wrap64 ((wrap64 (x1 + 1)) + 1)) + 1)) + 1)) (wrap64 (x5 + 1)))))) else (none)) else (some (x1, x0))
def bq_.f (k : Nat) (l0 : List (S66)) (a1 : Int) : Option (Int × (List (S66))) := bq_.l0 k l0 a1 0
set_option maxHeartbeats 8000000 in
set_option maxRecDepth 100000 in
theorem bq_.calls (k : Nat) (P0_ : Nat → Prop) (u9000_ : Value) (l0 : List (S66)) (a1 : Int) (r1 : Int) (r2 : List (S66)) (w0 w : World) (hB : Below w0.heap.size w0 w) (ho0 : Kd.R k66 66 w w0.heap.size P0_ u9000_ l0) (h : bq_.f k l0 a1 = some (r1, r2)) :
  Calls Tryz.prog 22 #[u9000_, .int .i64 a1] w fun e w' => e = .returned (.int .i64 r1) ∧ Kd.R k66 66 w' w0.heap.size (fun k_ => (P0_ k_ ∨ w.heap.size ≤ k_)) u9000_ r2 ∧ Below w0.heap.size w0 w' ∧ Kept w w' (fun k_ => P0_ k_) := by
 have HO0 := Aside0.mk (show Kd.R k66 66 w w0.heap.size (fun k_ => (P0_ k_ ∨ w.heap.size ≤ k_)) u9000_ l0 from Kd.bg_ ho0 (fun k_ hk => (.inl hk)))
 have HK := Aside0.mk (Kept.refl w (fun k_ => P0_ k_))
 have HW0 := Aside0.mk hB.size
 have HB := Aside0.mk hB
 clear hB
 have H : (bq_.l0 k l0 a1 0) = some (r1, r2) := h
 clear h
 have H' := Aside0.mk H
 clear H
 go_enter Tryz.func22, Tryz.ntmps22
 go_wp2
 (try simp only [Act.put, lsa_, ls0_, ls1_])
 go_loopg [1, 5] k (fun kq v1 v5 w' => ∃ (x0_1 : List (S66)) (x1_1 : Int) (x5_1 : Int), v1 = .int .i64 x1_1 ∧ v5 = .int .i64 x5_1 ∧ Aside0 (bq_.l0 kq x0_1 x1_1 x5_1 = some (r1, r2)) ∧ Aside0 (kq ≤ k) ∧ Aside0 (Kd.R k66 66 w' w0.heap.size (fun k_ => (P0_ k_ ∨ w.heap.size ≤ k_)) u9000_ x0_1) ∧ Aside0 (Kept w w' (fun k_ => P0_ k_)) ∧ Aside0 (Below w0.heap.size w0 w'))
 case atStart => exact ⟨(l0), (a1), (0), (by first | rfl | (simp; done) | (simp [*]; done)), (by first | rfl | (simp; done) | (simp [*]; done)), H', ⟨Nat.le_refl _⟩, ⟨rz HO0.out⟩, ⟨hz HK.out⟩, ⟨bz HB.out⟩⟩
 case round =>
  clear H'
  obtain ⟨x0_1, x1_1, x5_1, rfl, rfl, HA, HK1, HO_0, HK, HB⟩ := hrel
  cases gk with
  | zero => exact absurd HA.out (by simp [bq_.l0])
  | succ k1 =>
   have H := HA.out
   clear HA
   simp only [bq_.l0] at H
   by_cases c3 : x5_1 < (x0_1.length : Int)
   rotate_left
   ·rw [if_neg c3] at H
    have c3b0 : decide (x5_1 < (x0_1.length : Int)) = false := decide_eq_false c3
    clear c3
    simp only [Option.some.injEq, Prod.mk.injEq] at H
    obtain ⟨rfl, rfl⟩ := H
    obtain ⟨Ao18, co18, eo18⟩ := Kd.bv_ HO_0.out
    subst eo18
    go_wp2
    go_ret
    exact ⟨by first | rfl | (simp [*, ai_, ah_] <;> rfl), rz HO_0.out, bz HB.out, hz HK.out⟩
   rw [if_pos c3] at H
   have c3b0 : decide (x5_1 < (x0_1.length : Int)) = true := decide_eq_true c3
   clear c3
   by_cases c4 : 0 ≤ x5_1
   rotate_left
   ·rw [if_neg c4] at H
    exact absurd H (by simp)
   rw [if_pos c4] at H
   have c4b0 : decide (0 ≤ x5_1) = true := decide_eq_true c4
   clear c4
   obtain ⟨y101, hy101⟩ : ∃ y_ : List (S66), y_ = (x0_1.set (x5_1 : Int).toNat (⟨x1_1, (al_ x0_1 x5_1).f1, (al_ x0_1 x5_1).f2, (al_ x0_1 x5_1).f3⟩ : S66)) := ⟨_, rfl⟩
   replace H : ((some (y101.set (x5_1 : Int).toNat (⟨(al_ y101 x5_1).f0, wrap64 (x1_1 + 1), (al_ y101 x5_1).f2, (al_ y101 x5_1).f3⟩ : S66) : List (S66))).bind fun y102 => ((some (y102.set (x5_1 : Int).toNat (⟨(al_ y102 x5_1).f0, (al_ y102 x5_1).f1, wrap64 ((wrap64 (x1_1 + 1)) + 1), (al_ y102 x5_1).f3⟩ : S66) : List (S66))).bind fun y103 => (bq_.l0 k1 (y103.set (x5_1 : Int).toNat (⟨(al_ y103 x5_1).f0, (al_ y103 x5_1).f1, (al_ y103 x5_1).f2, wrap64 ((wrap64 ((wrap64 (x1_1 + 1)) + 1)) + 1)⟩ : S66)) (wrap64 ((wrap64 ((wrap64 ((wrap64 (x1_1 + 1)) + 1)) + 1)) + 1)) (wrap64 (x5_1 + 1))))) = some (r1, r2) := by first | (rw [hy101]; with_reducible exact H) | (have H2_ := (Option.bind_some _ _).symm.trans H; rw [hy101]; with_reducible exact H2_) | (have H2_ := (Option.bind_some _ _).symm.trans H; with_reducible exact H2_) | with_reducible exact H | (rw [hy101]; exact H) | exact H
   have Ny101 := Aside0.mk hy101
   clear hy101
   obtain ⟨y102, hy102⟩ : ∃ y_ : List (S66), y_ = (y101.set (x5_1 : Int).toNat (⟨(al_ y101 x5_1).f0, wrap64 (x1_1 + 1), (al_ y101 x5_1).f2, (al_ y101 x5_1).f3⟩ : S66)) := ⟨_, rfl⟩
   replace H : ((some (y102.set (x5_1 : Int).toNat (⟨(al_ y102 x5_1).f0, (al_ y102 x5_1).f1, wrap64 ((wrap64 (x1_1 + 1)) + 1), (al_ y102 x5_1).f3⟩ : S66) : List (S66))).bind fun y103 => (bq_.l0 k1 (y103.set (x5_1 : Int).toNat (⟨(al_ y103 x5_1).f0, (al_ y103 x5_1).f1, (al_ y103 x5_1).f2, wrap64 ((wrap64 ((wrap64 (x1_1 + 1)) + 1)) + 1)⟩ : S66)) (wrap64 ((wrap64 ((wrap64 ((wrap64 (x1_1 + 1)) + 1)) + 1)) + 1)) (wrap64 (x5_1 + 1)))) = some (r1, r2) := by first | (rw [hy102]; with_reducible exact H) | (have H2_ := (Option.bind_some _ _).symm.trans H; rw [hy102]; with_reducible exact H2_) | (have H2_ := (Option.bind_some _ _).symm.trans H; with_reducible exact H2_) | with_reducible exact H | (rw [hy102]; exact H) | exact H
   have Ny102 := Aside0.mk hy102
   clear hy102
   obtain ⟨y103, hy103⟩ : ∃ y_ : List (S66), y_ = (y102.set (x5_1 : Int).toNat (⟨(al_ y102 x5_1).f0, (al_ y102 x5_1).f1, wrap64 ((wrap64 (x1_1 + 1)) + 1), (al_ y102 x5_1).f3⟩ : S66)) := ⟨_, rfl⟩
   replace H : (bq_.l0 k1 (y103.set (x5_1 : Int).toNat (⟨(al_ y103 x5_1).f0, (al_ y103 x5_1).f1, (al_ y103 x5_1).f2, wrap64 ((wrap64 ((wrap64 (x1_1 + 1)) + 1)) + 1)⟩ : S66)) (wrap64 ((wrap64 ((wrap64 ((wrap64 (x1_1 + 1)) + 1)) + 1)) + 1)) (wrap64 (x5_1 + 1))) = some (r1, r2) := by first | (rw [hy103]; with_reducible exact H) | (have H2_ := (Option.bind_some _ _).symm.trans H; rw [hy103]; with_reducible exact H2_) | (have H2_ := (Option.bind_some _ _).symm.trans H; with_reducible exact H2_) | with_reducible exact H | (rw [hy103]; exact H) | exact H
   have Ny103 := Aside0.mk hy103
   clear hy103
   obtain ⟨y104, hy104⟩ : ∃ y_ : List (S66), y_ = (y103.set (x5_1 : Int).toNat (⟨(al_ y103 x5_1).f0, (al_ y103 x5_1).f1, (al_ y103 x5_1).f2, wrap64 ((wrap64 ((wrap64 (x1_1 + 1)) + 1)) + 1)⟩ : S66)) := ⟨_, rfl⟩
   replace H : (bq_.l0 k1 y104 (wrap64 ((wrap64 ((wrap64 ((wrap64 (x1_1 + 1)) + 1)) + 1)) + 1)) (wrap64 (x5_1 + 1))) = some (r1, r2) := by first | (rw [hy104]; with_reducible exact H) | (have H2_ := (Option.bind_some _ _).symm.trans H; rw [hy104]; with_reducible exact H2_) | (have H2_ := (Option.bind_some _ _).symm.trans H; with_reducible exact H2_) | with_reducible exact H | (rw [hy104]; exact H) | exact H
   have Ny104 := Aside0.mk hy104
   clear hy104
   have H' := Aside0.mk H
   clear H
   obtain ⟨Ao9, co9, eo9⟩ := Kd.bv_ HO_0.out
   subst eo9
   have p5 : 0 ≤ (x5_1 : Int) := of_decide_eq_true (by assumption)
   have q5 : (x5_1 : Int) < ((x0_1.length : Int) : Int) := of_decide_eq_true (by assumption)
   obtain ⟨go5, co5, eo5, gb5, gl5, cl5, HG5⟩ := Kd.R_form HO_0.out (by omega)
   (first | cases eo5 | (injection eo5 with ea_ en_ ec_; (first | subst ea_ | (injection ea_ with ea_; subst ea_)); subst ec_; clear en_))
   have GB5 := Aside0.mk gb5
   have GG5 := Aside0.mk HG5
   clear gb5 gl5 HG5
   have HMgo5 := Aside0.mk (show (P0_ go5 ∨ w.heap.size ≤ go5) from (HO_0.out.1 _ rfl))
   obtain ⟨ce5, hcl5, hM5, hcc5, hfr5⟩ := Kd.cU_ HO_0.out z66 (x5_1 : Int) p5 q5
   obtain rfl := cY_ hM5
   have hx5_0 : wr.cell? ⟨go5, (x5_1 : Int).toNat * 4, none⟩ = some (.int .i64 ((al_ x0_1 x5_1).f0)) := hcc5 0 _ rfl
   have hx5_1 : wr.cell? ⟨go5, (x5_1 : Int).toNat * 4 + 1, none⟩ = some (.int .i64 ((al_ x0_1 x5_1).f1)) := hcc5 1 _ rfl
   have hx5_2 : wr.cell? ⟨go5, (x5_1 : Int).toNat * 4 + 2, none⟩ = some (.int .i64 ((al_ x0_1 x5_1).f2)) := hcc5 2 _ rfl
   have hx5_3 : wr.cell? ⟨go5, (x5_1 : Int).toNat * 4 + 3, none⟩ = some (.int .i64 ((al_ x0_1 x5_1).f3)) := hcc5 3 _ rfl
   have hf5_0 : wr.frozen? ⟨go5, (x5_1 : Int).toNat * 4, none⟩ = false := hfr5 0
   have hf5_1 : wr.frozen? ⟨go5, (x5_1 : Int).toNat * 4 + 1, none⟩ = false := hfr5 1
   have hf5_2 : wr.frozen? ⟨go5, (x5_1 : Int).toNat * 4 + 2, none⟩ = false := hfr5 2
   have hf5_3 : wr.frozen? ⟨go5, (x5_1 : Int).toNat * 4 + 3, none⟩ = false := hfr5 3
   clear hcl5 hcc5 hfr5 hM5
   replace p5 := eq_true p5
   replace q5 := eq_true q5
   have HX10 := Aside0.mk (show Kd.R k66 66 wr w0.heap.size (fun k_ => (P0_ k_ ∨ w.heap.size ≤ k_)) (.slice (some ⟨go5, 0, none⟩) x0_1.length co9) x0_1 from (rz HO_0.out))
   obtain ⟨ce10, hcl10, hM10, hcc10, hfr10⟩ := Kd.cU_ HX10.out z66 (x5_1 : Int) (of_decide_eq_true (by assumption)) (by have h_ : (x5_1 : Int) < ((x0_1.length : Int) : Int) := of_decide_eq_true (by assumption); first | exact h_ | (have e_ := (Kd.av_ HO_0.out).1; omega) | simpa using h_)
   obtain rfl := cY_ hM10
   have HP10 := Kd.R_seg HX10.out (x5_1 : Int) (of_decide_eq_true (by assumption)) (by have h_ : (x5_1 : Int) < ((x0_1.length : Int) : Int) := of_decide_eq_true (by assumption); first | exact h_ | (have e_ := (Kd.av_ HO_0.out).1; omega) | simpa using h_) (seg := [.int .i64 x1_1]) (j := 0) hcl10 hcc10 (show 1 ≤ 4 from by decide) (x' := (⟨x1_1, (al_ x0_1 x5_1).f1, (al_ x0_1 x5_1).f2, (al_ x0_1 x5_1).f3⟩ : S66)) (k66_mkM _ _ _ (⟨x1_1, (al_ x0_1 x5_1).f1, (al_ x0_1 x5_1).f2, (al_ x0_1 x5_1).f3⟩ : S66) ) (fun _ hk => hk)
   have hx10_0 := hcc10 0 _ rfl
   (try simp only [show (k66).sz = 4 from rfl, Nat.mul_one, Nat.add_zero] at hx10_0)
   have hf10_0 := hfr10 0
   (try simp only [show (k66).sz = 4 from rfl, Nat.mul_one, Nat.add_zero] at hf10_0)
   clear hcl10 hcc10 hfr10 hM10
   go_wp2_with (first | ((with_reducible refine bJ_ (t := 2) (p := 16) rfl ?_); refine by_ (t := 2) (p := 16) (v := ?vo_w11) (w1 := (wr.setCell ⟨go5, (x5_1 : Int).toNat * 4, none⟩ (.int .i64 x1_1))) ?hg ?ho ?hn ?hr ?_; (case ho => rfl); (case hg => rfl); (case hn => rfl); (case hr => (go_simp; try rfl)); intro w11 hw; have hg : wr.grownBy w11 (some go5) := (by rw [hw]; exact HP10.2); have hp_ : Kd.R k66 66 w11 w0.heap.size (fun k_ => (P0_ k_ ∨ w.heap.size ≤ k_)) (.slice (some ⟨go5, 0, none⟩) x0_1.length co9) y101 := (by rw [hw, Ny101.out]; exact HP10.1); clear HP10; replace HB := Aside0.mk ((by rw [hw]; exact aa_ (HB.out) GB5.out : Below w0.heap.size w0 w11)); replace HK := Aside0.mk (Kept.cy_ (S := (fun k_ => P0_ k_)) hg (hz HK.out) (fun k_ e_ => (HO_0.out.1 k_ e_))); replace HO_0 := Aside0.mk (hp_); clear hg hw hp_; have p6 : 0 ≤ (x5_1 : Int) := of_decide_eq_true (by assumption); have q6 : (x5_1 : Int) < ((x0_1.length : Int) : Int) := of_decide_eq_true (by assumption); obtain ⟨ce6, hcl6, hM6, hcc6, hfr6⟩ := Kd.cU_ HO_0.out z66 (x5_1 : Int) p6 q6; obtain rfl := cY_ hM6; have hx6_0 : w11.cell? ⟨go5, (x5_1 : Int).toNat * 4, none⟩ = some (.int .i64 ((al_ y101 x5_1).f0)) := hcc6 0 _ rfl; have hx6_1 : w11.cell? ⟨go5, (x5_1 : Int).toNat * 4 + 1, none⟩ = some (.int .i64 ((al_ y101 x5_1).f1)) := hcc6 1 _ rfl; have hx6_2 : w11.cell? ⟨go5, (x5_1 : Int).toNat * 4 + 2, none⟩ = some (.int .i64 ((al_ y101 x5_1).f2)) := hcc6 2 _ rfl; have hx6_3 : w11.cell? ⟨go5, (x5_1 : Int).toNat * 4 + 3, none⟩ = some (.int .i64 ((al_ y101 x5_1).f3)) := hcc6 3 _ rfl; have hf6_0 : w11.frozen? ⟨go5, (x5_1 : Int).toNat * 4, none⟩ = false := hfr6 0; have hf6_1 : w11.frozen? ⟨go5, (x5_1 : Int).toNat * 4 + 1, none⟩ = false := hfr6 1; have hf6_2 : w11.frozen? ⟨go5, (x5_1 : Int).toNat * 4 + 2, none⟩ = false := hfr6 2; have hf6_3 : w11.frozen? ⟨go5, (x5_1 : Int).toNat * 4 + 3, none⟩ = false := hfr6 3; clear hcl6 hcc6 hfr6 hM6; replace p6 := eq_true p6; replace q6 := eq_true q6; have HX12 := Aside0.mk (show Kd.R k66 66 w11 w0.heap.size (fun k_ => (P0_ k_ ∨ w.heap.size ≤ k_)) (.slice (some ⟨go5, 0, none⟩) x0_1.length co9) y101 from (rz HO_0.out)); obtain ⟨ce12, hcl12, hM12, hcc12, hfr12⟩ := Kd.cU_ HX12.out z66 (x5_1 : Int) (of_decide_eq_true (by assumption)) (by have h_ : (x5_1 : Int) < ((x0_1.length : Int) : Int) := of_decide_eq_true (by assumption); first | exact h_ | (have e_ := (Kd.av_ HO_0.out).1; omega) | simpa using h_); obtain rfl := cY_ hM12; have HP12 := Kd.R_seg HX12.out (x5_1 : Int) (of_decide_eq_true (by assumption)) (by have h_ : (x5_1 : Int) < ((x0_1.length : Int) : Int) := of_decide_eq_true (by assumption); first | exact h_ | (have e_ := (Kd.av_ HO_0.out).1; omega) | simpa using h_) (seg := [.int .i64 (wrap64 (x1_1 + 1))]) (j := 1) hcl12 hcc12 (show 2 ≤ 4 from by decide) (x' := (⟨(al_ y101 x5_1).f0, wrap64 (x1_1 + 1), (al_ y101 x5_1).f2, (al_ y101 x5_1).f3⟩ : S66)) (k66_mkM _ _ _ (⟨(al_ y101 x5_1).f0, wrap64 (x1_1 + 1), (al_ y101 x5_1).f2, (al_ y101 x5_1).f3⟩ : S66) ) (fun _ hk => hk); have hx12_1 := hcc12 1 _ rfl; (try simp only [show (k66).sz = 4 from rfl, Nat.mul_one, Nat.add_zero] at hx12_1); have hf12_1 := hfr12 1; (try simp only [show (k66).sz = 4 from rfl, Nat.mul_one, Nat.add_zero] at hf12_1); clear hcl12 hcc12 hfr12 hM12) | ((with_reducible refine bJ_ (t := 2) (p := 23) rfl ?_); refine by_ (t := 2) (p := 23) (v := ?vo_w13) (w1 := (w11.setCell ⟨go5, (x5_1 : Int).toNat * 4 + 1, none⟩ (.int .i64 (wrap64 (x1_1 + 1))))) ?hg ?ho ?hn ?hr ?_; (case ho => rfl); (case hg => rfl); (case hn => rfl); (case hr => (go_simp; try rfl)); intro w13 hw; have hg : w11.grownBy w13 (some go5) := (by rw [hw]; exact HP12.2); have hp_ : Kd.R k66 66 w13 w0.heap.size (fun k_ => (P0_ k_ ∨ w.heap.size ≤ k_)) (.slice (some ⟨go5, 0, none⟩) x0_1.length co9) y102 := (by rw [hw, Ny102.out]; exact HP12.1); clear HP12; replace HB := Aside0.mk ((by rw [hw]; exact aa_ (HB.out) GB5.out : Below w0.heap.size w0 w13)); replace HK := Aside0.mk (Kept.cy_ (S := (fun k_ => P0_ k_)) hg (hz HK.out) (fun k_ e_ => (HO_0.out.1 k_ e_))); replace HO_0 := Aside0.mk (hp_); clear hg hw hp_; have p7 : 0 ≤ (x5_1 : Int) := of_decide_eq_true (by assumption); have q7 : (x5_1 : Int) < ((x0_1.length : Int) : Int) := of_decide_eq_true (by assumption); obtain ⟨ce7, hcl7, hM7, hcc7, hfr7⟩ := Kd.cU_ HO_0.out z66 (x5_1 : Int) p7 q7; obtain rfl := cY_ hM7; have hx7_0 : w13.cell? ⟨go5, (x5_1 : Int).toNat * 4, none⟩ = some (.int .i64 ((al_ y102 x5_1).f0)) := hcc7 0 _ rfl; have hx7_1 : w13.cell? ⟨go5, (x5_1 : Int).toNat * 4 + 1, none⟩ = some (.int .i64 ((al_ y102 x5_1).f1)) := hcc7 1 _ rfl; have hx7_2 : w13.cell? ⟨go5, (x5_1 : Int).toNat * 4 + 2, none⟩ = some (.int .i64 ((al_ y102 x5_1).f2)) := hcc7 2 _ rfl; have hx7_3 : w13.cell? ⟨go5, (x5_1 : Int).toNat * 4 + 3, none⟩ = some (.int .i64 ((al_ y102 x5_1).f3)) := hcc7 3 _ rfl; have hf7_0 : w13.frozen? ⟨go5, (x5_1 : Int).toNat * 4, none⟩ = false := hfr7 0; have hf7_1 : w13.frozen? ⟨go5, (x5_1 : Int).toNat * 4 + 1, none⟩ = false := hfr7 1; have hf7_2 : w13.frozen? ⟨go5, (x5_1 : Int).toNat * 4 + 2, none⟩ = false := hfr7 2; have hf7_3 : w13.frozen? ⟨go5, (x5_1 : Int).toNat * 4 + 3, none⟩ = false := hfr7 3; clear hcl7 hcc7 hfr7 hM7; replace p7 := eq_true p7; replace q7 := eq_true q7; have HX14 := Aside0.mk (show Kd.R k66 66 w13 w0.heap.size (fun k_ => (P0_ k_ ∨ w.heap.size ≤ k_)) (.slice (some ⟨go5, 0, none⟩) x0_1.length co9) y102 from (rz HO_0.out)); obtain ⟨ce14, hcl14, hM14, hcc14, hfr14⟩ := Kd.cU_ HX14.out z66 (x5_1 : Int) (of_decide_eq_true (by assumption)) (by have h_ : (x5_1 : Int) < ((x0_1.length : Int) : Int) := of_decide_eq_true (by assumption); first | exact h_ | (have e_ := (Kd.av_ HO_0.out).1; omega) | simpa using h_); obtain rfl := cY_ hM14; have HP14 := Kd.R_seg HX14.out (x5_1 : Int) (of_decide_eq_true (by assumption)) (by have h_ : (x5_1 : Int) < ((x0_1.length : Int) : Int) := of_decide_eq_true (by assumption); first | exact h_ | (have e_ := (Kd.av_ HO_0.out).1; omega) | simpa using h_) (seg := [.int .i64 (wrap64 ((wrap64 (x1_1 + 1)) + 1))]) (j := 2) hcl14 hcc14 (show 3 ≤ 4 from by decide) (x' := (⟨(al_ y102 x5_1).f0, (al_ y102 x5_1).f1, wrap64 ((wrap64 (x1_1 + 1)) + 1), (al_ y102 x5_1).f3⟩ : S66)) (k66_mkM _ _ _ (⟨(al_ y102 x5_1).f0, (al_ y102 x5_1).f1, wrap64 ((wrap64 (x1_1 + 1)) + 1), (al_ y102 x5_1).f3⟩ : S66) ) (fun _ hk => hk); have hx14_2 := hcc14 2 _ rfl; (try simp only [show (k66).sz = 4 from rfl, Nat.mul_one, Nat.add_zero] at hx14_2); have hf14_2 := hfr14 2; (try simp only [show (k66).sz = 4 from rfl, Nat.mul_one, Nat.add_zero] at hf14_2); clear hcl14 hcc14 hfr14 hM14) | ((with_reducible refine bJ_ (t := 2) (p := 30) rfl ?_); refine by_ (t := 2) (p := 30) (v := ?vo_w15) (w1 := (w13.setCell ⟨go5, (x5_1 : Int).toNat * 4 + 2, none⟩ (.int .i64 (wrap64 ((wrap64 (x1_1 + 1)) + 1))))) ?hg ?ho ?hn ?hr ?_; (case ho => rfl); (case hg => rfl); (case hn => rfl); (case hr => (go_simp; try rfl)); intro w15 hw; have hg : w13.grownBy w15 (some go5) := (by rw [hw]; exact HP14.2); have hp_ : Kd.R k66 66 w15 w0.heap.size (fun k_ => (P0_ k_ ∨ w.heap.size ≤ k_)) (.slice (some ⟨go5, 0, none⟩) x0_1.length co9) y103 := (by rw [hw, Ny103.out]; exact HP14.1); clear HP14; replace HB := Aside0.mk ((by rw [hw]; exact aa_ (HB.out) GB5.out : Below w0.heap.size w0 w15)); replace HK := Aside0.mk (Kept.cy_ (S := (fun k_ => P0_ k_)) hg (hz HK.out) (fun k_ e_ => (HO_0.out.1 k_ e_))); replace HO_0 := Aside0.mk (hp_); clear hg hw hp_; have p8 : 0 ≤ (x5_1 : Int) := of_decide_eq_true (by assumption); have q8 : (x5_1 : Int) < ((x0_1.length : Int) : Int) := of_decide_eq_true (by assumption); obtain ⟨ce8, hcl8, hM8, hcc8, hfr8⟩ := Kd.cU_ HO_0.out z66 (x5_1 : Int) p8 q8; obtain rfl := cY_ hM8; have hx8_0 : w15.cell? ⟨go5, (x5_1 : Int).toNat * 4, none⟩ = some (.int .i64 ((al_ y103 x5_1).f0)) := hcc8 0 _ rfl; have hx8_1 : w15.cell? ⟨go5, (x5_1 : Int).toNat * 4 + 1, none⟩ = some (.int .i64 ((al_ y103 x5_1).f1)) := hcc8 1 _ rfl; have hx8_2 : w15.cell? ⟨go5, (x5_1 : Int).toNat * 4 + 2, none⟩ = some (.int .i64 ((al_ y103 x5_1).f2)) := hcc8 2 _ rfl; have hx8_3 : w15.cell? ⟨go5, (x5_1 : Int).toNat * 4 + 3, none⟩ = some (.int .i64 ((al_ y103 x5_1).f3)) := hcc8 3 _ rfl; have hf8_0 : w15.frozen? ⟨go5, (x5_1 : Int).toNat * 4, none⟩ = false := hfr8 0; have hf8_1 : w15.frozen? ⟨go5, (x5_1 : Int).toNat * 4 + 1, none⟩ = false := hfr8 1; have hf8_2 : w15.frozen? ⟨go5, (x5_1 : Int).toNat * 4 + 2, none⟩ = false := hfr8 2; have hf8_3 : w15.frozen? ⟨go5, (x5_1 : Int).toNat * 4 + 3, none⟩ = false := hfr8 3; clear hcl8 hcc8 hfr8 hM8; replace p8 := eq_true p8; replace q8 := eq_true q8; have HX16 := Aside0.mk (show Kd.R k66 66 w15 w0.heap.size (fun k_ => (P0_ k_ ∨ w.heap.size ≤ k_)) (.slice (some ⟨go5, 0, none⟩) x0_1.length co9) y103 from (rz HO_0.out)); obtain ⟨ce16, hcl16, hM16, hcc16, hfr16⟩ := Kd.cU_ HX16.out z66 (x5_1 : Int) (of_decide_eq_true (by assumption)) (by have h_ : (x5_1 : Int) < ((x0_1.length : Int) : Int) := of_decide_eq_true (by assumption); first | exact h_ | (have e_ := (Kd.av_ HO_0.out).1; omega) | simpa using h_); obtain rfl := cY_ hM16; have HP16 := Kd.R_seg HX16.out (x5_1 : Int) (of_decide_eq_true (by assumption)) (by have h_ : (x5_1 : Int) < ((x0_1.length : Int) : Int) := of_decide_eq_true (by assumption); first | exact h_ | (have e_ := (Kd.av_ HO_0.out).1; omega) | simpa using h_) (seg := [.int .i64 (wrap64 ((wrap64 ((wrap64 (x1_1 + 1)) + 1)) + 1))]) (j := 3) hcl16 hcc16 (show 4 ≤ 4 from by decide) (x' := (⟨(al_ y103 x5_1).f0, (al_ y103 x5_1).f1, (al_ y103 x5_1).f2, wrap64 ((wrap64 ((wrap64 (x1_1 + 1)) + 1)) + 1)⟩ : S66)) (k66_mkM _ _ _ (⟨(al_ y103 x5_1).f0, (al_ y103 x5_1).f1, (al_ y103 x5_1).f2, wrap64 ((wrap64 ((wrap64 (x1_1 + 1)) + 1)) + 1)⟩ : S66) ) (fun _ hk => hk); have hx16_3 := hcc16 3 _ rfl; (try simp only [show (k66).sz = 4 from rfl, Nat.mul_one, Nat.add_zero] at hx16_3); have hf16_3 := hfr16 3; (try simp only [show (k66).sz = 4 from rfl, Nat.mul_one, Nat.add_zero] at hf16_3); clear hcl16 hcc16 hfr16 hM16) | ((with_reducible refine bJ_ (t := 2) (p := 37) rfl ?_); refine by_ (t := 2) (p := 37) (v := ?vo_w17) (w1 := (w15.setCell ⟨go5, (x5_1 : Int).toNat * 4 + 3, none⟩ (.int .i64 (wrap64 ((wrap64 ((wrap64 (x1_1 + 1)) + 1)) + 1))))) ?hg ?ho ?hn ?hr ?_; (case ho => rfl); (case hg => rfl); (case hn => rfl); (case hr => (go_simp; try rfl)); intro w17 hw; have hg : w15.grownBy w17 (some go5) := (by rw [hw]; exact HP16.2); have hp_ : Kd.R k66 66 w17 w0.heap.size (fun k_ => (P0_ k_ ∨ w.heap.size ≤ k_)) (.slice (some ⟨go5, 0, none⟩) x0_1.length co9) y104 := (by rw [hw, Ny104.out]; exact HP16.1); clear HP16; replace HB := Aside0.mk ((by rw [hw]; exact aa_ (HB.out) GB5.out : Below w0.heap.size w0 w17)); replace HK := Aside0.mk (Kept.cy_ (S := (fun k_ => P0_ k_)) hg (hz HK.out) (fun k_ e_ => (HO_0.out.1 k_ e_))); replace HO_0 := Aside0.mk (hp_); clear hg hw hp_))
   go_roundg k1
   case measure => have := HK1.out; omega
   case rel => exact ⟨(y104), (wrap64 ((wrap64 ((wrap64 ((wrap64 (x1_1 + 1)) + 1)) + 1)) + 1)), (wrap64 (x5_1 + 1)), (by first | rfl | (simp; done) | (simp [*]; done)), (by first | rfl | (simp; done) | (simp [*]; done)), H', ⟨by have := HK1.out; omega⟩, ⟨rz HO_0.out⟩, ⟨hz HK.out⟩, ⟨bz HB.out⟩⟩
end Go.Proofs.YtckboiphlhhckaaGreatDoor.Q
