/- The statement FnExactLeavesOfBlocks: for all lists of blocks the program and the reference give the same leaves and the same code; the lists handed over stay as they are, and the leaves are new. This text holds the functions' walks and the words for them. -/
import Derived.Shelf.Strings.Builder1
import Derived.Shelf.Strings.Builder2
import Derived.Shelf.Strings.OnBuilder
import Derived.Shelf.Small.Strs
import Derived.Shelf.Strings.BuilderF
import Derived.Shelf.Strings.BuilderK
import Derived.Shelf.Utf8.RuneCount
import Derived.Shelf.Strings.Builder2Cap
import Derived.Shelf.Strconv.Itoa0
import Derived.Shelf.Strconv.Itoa1
import Derived.Shelf.LaysM
import Derived.Shelf.Strconv.Itoa2
import Derived.Shelf.Strconv.Itoa3
import Derived.Shelf.Strconv.Itoa4
import Derived.Shelf.Strings.Search1
import Derived.Shelf.Strings.Search2
import Derived.Shelf.Strings.Search3
import Derived.Shelf.Strings.Cut
import Derived.Shelf.Strings.Count
import Derived.Shelf.Strings.Shaped
import Derived.Shelf.Strings.Prefix
import Derived.Shelf.Strings.Split
import Derived.Shelf.Strings.SplitShaped
import Derived.Shelf.Unicode.Decode
import Derived.Shelf.Strings.RuneCount
import Derived.Shelf.Strings.Explode
import Derived.Shelf.Unicode.DecodeSlow
import Derived.Shelf.Unicode.DecodeAny
import Derived.Shelf.Strings.BuilderCap
import Derived.Test.YtckboiphlhhckaaGreatDoorProg
import Derived.Lib.LaidTab
import Derived.Lib.ItoaNum
import Derived.WalkSmall
import Derived.KernelRfl
import Derived.Lib.SplitLaws
import Derived.Lib.AppendIntMem
import Derived.Test.YtckboiphlhhckaaGreatDoorKFnExactLeavesOfBlocksa
import Derived.Test.YtckboiphlhhckaaGreatDoorKFnExactLeavesOfBlocksb
set_option linter.unusedVariables false
set_option linter.unusedSimpArgs false
namespace Go.Proofs.YtckboiphlhhckaaGreatDoor.Q
open Go.RowKit Go.Proofs.YtckboiphlhhckaaGreatDoorW.PrintWords Go.Proofs.YtckboiphlhhckaaGreatDoorW.PrintLast Go.Proofs.YtckboiphlhhckaaGreatDoorW.PrintMore
attribute [local go_sem] aN_ aM_ aW_ aU_ aC_ aD_ aL_ aO_
mutual
def ax_.j0 : Nat → List ByteArray → Bool → ByteArray → ByteArray → Int → ByteArray → Int → Int → Int → Int → Option (ByteArray × ByteArray × Int × ByteArray × Int × Int × Int × Int × (List (S66)) × Bool)
 | 0, _, _, _, _, _, _, _, _, _, _ => none
 | k + 1, x4, x13, x121000, x121001, x121002, x121003, x121004, x121005, x121006, x121007 => ax_.l0 k x4 x13 5 x121000 x121001 x121002 x121003 x121004 x121005 x121006 x121007 ([] : List (S66))
def ax_.l0 : Nat → List ByteArray → Bool → Int → ByteArray → ByteArray → Int → ByteArray → Int → Int → Int → Int → List (S66) → Option (ByteArray × ByteArray × Int × ByteArray × Int × Int × Int × Int × (List (S66)) × Bool)
 | 0, _, _, _, _, _, _, _, _, _, _, _, _ => none
 | k + 1, x4, x13, x14, x121000, x121001, x121002, x121003, x121004, x121005, x121006, x121007, x121008 => if x14 < (x4.length : Int) then (if 0 ≤ x14 then ((bn_.f k (rdOf ByteArray.empty x4 x14)).bind fun bt122 => (if bt122.2 = true then (if (bt122.1.length : Int) = 4 then (if 0 < (bt122.1.length : Int) then (if 1 < (bt122.1.length : Int) then (if 2 < (bt122.1.length : Int) then (if 3 < (bt122.1.length : Int) then (if x121008.length < 4398046511104 then (ax_.l0 k x4 x13 (wrap64 (x14 + 1)) x121000 x121001 x121002 x121003 x121004 x121005 x121006 x121007 (x121008 ++ [(⟨rd bt122.1 0, rd bt122.1 1, rd bt122.1 2, rd bt122.1 3⟩ : S66)])) else (none)) else (none)) else (none)) else (none)) else (none)) else (some ((⟨#[]⟩ : ByteArray), (⟨#[]⟩ : ByteArray), 0, (⟨#[]⟩ : ByteArray), 0, 0, 0, 0, ([] : List (S66)), false))) else (some ((⟨#[]⟩ : ByteArray), (⟨#[]⟩ : ByteArray), 0, (⟨#[]⟩ : ByteArray), 0, 0, 0, 0, ([] : List (S66)), false)))) else (none)) else (if x13 = true then ((as_.f k [(⟨x121000, x121001, x121002, (⟨x121003, x121004, x121005⟩ : S40), x121006, x121007, x121008⟩ : S43)]).bind fun t133 => (if t133 = true then (some (x121000, x121001, x121002, x121003, x121004, x121005, x121006, x121007, x121008, true)) else (some ((⟨#[]⟩ : ByteArray), (⟨#[]⟩ : ByteArray), 0, (⟨#[]⟩ : ByteArray), 0, 0, 0, 0, ([] : List (S66)), false)))) else (some ((⟨#[]⟩ : ByteArray), (⟨#[]⟩ : ByteArray), 0, (⟨#[]⟩ : ByteArray), 0, 0, 0, 0, ([] : List (S66)), false)))
end
def ax_.f (k : Nat) (a0 : ByteArray) : Option (ByteArray × ByteArray × Int × ByteArray × Int × Int × Int × Int × (List (S66)) × Bool) := (aP_.f k a0 47).bind fun t102 => (if (t102.length : Int) < 5 then (some ((⟨#[]⟩ : ByteArray), (⟨#[]⟩ : ByteArray), 0, (⟨#[]⟩ : ByteArray), 0, 0, 0, 0, ([] : List (S66)), false)) else (if 2 < (t102.length : Int) then ((aj_.f k (rdOf ByteArray.empty t102 2)).bind fun bt106 => (if 3 < (t102.length : Int) then ((cv_.f k (rdOf ByteArray.empty t102 3)).bind fun bt109 => (if 4 < (t102.length : Int) then ((cc_.f k (rdOf ByteArray.empty t102 4)).bind fun bt115 => (if 0 < (t102.length : Int) then (if 1 < (t102.length : Int) then (if bt106.2 = true then (if bt109.2.2.2 = true then (ax_.j0 k t102 bt115.2.2 (rdOf ByteArray.empty t102 0) (rdOf ByteArray.empty t102 1) bt106.1 bt109.1 bt109.2.1 bt109.2.2.1 bt115.1 bt115.2.1) else (ax_.j0 k t102 false (rdOf ByteArray.empty t102 0) (rdOf ByteArray.empty t102 1) bt106.1 bt109.1 bt109.2.1 bt109.2.2.1 bt115.1 bt115.2.1)) else (ax_.j0 k t102 false (rdOf ByteArray.empty t102 0) (rdOf ByteArray.empty t102 1) bt106.1 bt109.1 bt109.2.1 bt109.2.2.1 bt115.1 bt115.2.1)) else (none)) else (none))) else (none))) else (none))) else (none)))
def ax_.T7 : Bool × List (List Nat × List Nat) := (true, [([], []), ([0], [0]), ([1], [1]), ([], []), ([3], [3]), ([4], [4]), ([], []), ([], []), ([], []), ([], []), ([2, 5, 6, 7, 8, 9], [2, 5, 6, 7, 8, 9]), ([], []), ([11, 10, 0, 1, 2, 3, 4, 5, 6, 7, 8, 9, 10, 11], [10, 11])])
def ax_.B7 : List Nat := [0, 1, 3, 0, 8, 24, 0, 0, 0, 0, 1023, 0, 4095]
theorem ax_.tab7 : rtab .any (opsOf Tryz.f15 7) = ax_.T7 := by kernel_rfl
theorem ax_.bits7 : cC_ ax_.T7.2 ax_.B7 = true := by kernel_rfl
def ax_.T15 : Bool × List (List Nat × List Nat) := (true, [([], []), ([0], [0]), ([], []), ([2], [2]), ([3], [3]), ([], []), ([5], [5]), ([6], [6]), ([], []), ([8], [8]), ([9], [9]), ([], []), ([11], [11]), ([12], [12]), ([4, 7, 10, 13], [4, 7, 10, 13]), ([14], [14]), ([1, 15], [1, 15]), ([0, 1, 2, 3, 4, 5, 6, 7, 8, 9, 10, 11, 12, 13, 14, 15, 16], []), ([17, 16, 16, 0, 1, 2, 3, 4, 5, 6, 7, 8, 9, 10, 11, 12, 13, 14, 15, 16], [16, 17])])
def ax_.B15 : List Nat := [0, 1, 0, 4, 12, 0, 32, 96, 0, 256, 768, 0, 2048, 6144, 16380, 32764, 65535, 131071, 262143]
theorem ax_.tab15 : rtab .any (opsOf Tryz.f15 15) = ax_.T15 := by kernel_rfl
theorem ax_.bits15 : cC_ ax_.T15.2 ax_.B15 = true := by kernel_rfl
set_option maxHeartbeats 8000000 in
set_option maxRecDepth 100000 in
theorem ax_.calls (k : Nat) (a0 : ByteArray) (r1 : ByteArray) (r2 : ByteArray) (r3 : Int) (r4 : ByteArray) (r5 : Int) (r6 : Int) (r7 : Int) (r8 : Int) (r9 : List (S66)) (r10 : Bool) (w : World) (h : ax_.f k a0 = some (r1, r2, r3, r4, r5, r6, r7, r8, r9, r10)) :
  Calls Tryz.prog 15 #[.string a0] w fun e w' => ∃ v8_ : Value, e = .returned (.tuple #[.agg #[.string r1, .string r2, .int .i64 r3, .string r4, .int .i64 r5, .int .i64 r6, .int .i64 r7, .int .i64 r8, v8_], .bool r10]) ∧ Kd.R k66 66 w' w.heap.size (fun _ => True) v8_ r9 ∧ Below w.heap.size w w' := by
 have hu43 := Tryz.underlying43
 have hu40 := Tryz.underlying40
 have hu66 := Tryz.underlying66
 have HB := Aside0.mk (Below.refl w.heap.size w)
 have H : ((aP_.f k a0 47).bind fun t102 => (if (t102.length : Int) < 5 then (some ((⟨#[]⟩ : ByteArray), (⟨#[]⟩ : ByteArray), 0, (⟨#[]⟩ : ByteArray), 0, 0, 0, 0, ([] : List (S66)), false)) else (if 2 < (t102.length : Int) then ((aj_.f k (rdOf ByteArray.empty t102 2)).bind fun bt106 => (if 3 < (t102.length : Int) then ((cv_.f k (rdOf ByteArray.empty t102 3)).bind fun bt109 => (if 4 < (t102.length : Int) then ((cc_.f k (rdOf ByteArray.empty t102 4)).bind fun bt115 => (if 0 < (t102.length : Int) then (if 1 < (t102.length : Int) then (if bt106.2 = true then (if bt109.2.2.2 = true then (ax_.j0 k t102 bt115.2.2 (rdOf ByteArray.empty t102 0) (rdOf ByteArray.empty t102 1) bt106.1 bt109.1 bt109.2.1 bt109.2.2.1 bt115.1 bt115.2.1) else (ax_.j0 k t102 false (rdOf ByteArray.empty t102 0) (rdOf ByteArray.empty t102 1) bt106.1 bt109.1 bt109.2.1 bt109.2.2.1 bt115.1 bt115.2.1)) else (ax_.j0 k t102 false (rdOf ByteArray.empty t102 0) (rdOf ByteArray.empty t102 1) bt106.1 bt109.1 bt109.2.1 bt109.2.2.1 bt115.1 bt115.2.1)) else (none)) else (none))) else (none))) else (none))) else (none)))) = some (r1, r2, r3, r4, r5, r6, r7, r8, r9, r10) := h
 clear h
 replace H := Option.bind_eq_some_iff.mp H
 obtain ⟨t102, A20, H⟩ := H
 (try dsimp only at H)
 have A2 := Aside0.mk A20
 clear A20
 have HC3 := Aside0.mk H
 clear H
 go_enter Tryz.func15, Tryz.ntmps15
 go_upto_if 21 with (first | ((with_reducible refine aI_ (N := 2) rfl ?_); (try (refine cH_ (by rfl) ?_; dsimp only)); refine aR_ ?hg (N := 2) ?hd (cs := #[.string (⟨#[]⟩ : ByteArray), .string (⟨#[]⟩ : ByteArray), .int .i64 0, .string (⟨#[]⟩ : ByteArray), .int .i64 0, .int .i64 0, .int .i64 0, .int .i64 0, .slice none 0 0]) (t := 43) ?hr ?_; (case hd => rfl); (case hg => rfl); (case hr => (go_simp; try rfl)); intro gb101 hg w4 hbox hb; have BK101 := Aside0.mk (hbox); have GW101 := Aside0.mk ((by rw [hg]; exact (ad_ (bz HB.out)) : w.heap.size ≤ gb101)); have GE101 := Aside0.mk ((by rw [hg]; exact (ad_ (bz HB.out)) : w.heap.size ≤ gb101)); replace HB := Aside0.mk (ac_ (bz HB.out) hb); clear hb hbox hg) | ((with_reducible refine af_ (f := 26) rfl ?_); refine aJ_ (some 18) rfl rfl Tryz.func26 (by kernel_rfl) rfl #[.string a0, .int .u8 47] rfl (by first | rfl | (simp only [lma_, lmc_, lmn_]; first | done | rfl)) ?_; (with_reducible refine (aP_.calls k a0 47 t102 _ A2.out).mono ?_); rintro e w5 ⟨v103, rfl, ho0, hb⟩; refine ⟨_, rfl, ?_⟩; have HO104 := Aside0.mk (Kd.bz_ ho0 (ad_ (by repeat (first | (with_reducible first | exact HB.out | apply bA_ | apply bN_ | apply bD_ | refine aa_ ?_ GE101.out))))); replace BK101 := Aside0.mk (an_ (kz BK101.out) hb); replace HB := Aside0.mk (ac_ (by repeat (first | (with_reducible first | exact HB.out | apply bA_ | apply bN_ | apply bD_ | refine aa_ ?_ GE101.out))) hb); (try clear hb); (try clear ho0); obtain ⟨Ao6, co6, eo6⟩ := Kd.bv_ HO104.out; subst eo6))
 (try simp only [Act.put, lsa_, ls0_, ls1_])
 have H := HC3.out
 clear HC3
 by_cases c7 : (t102.length : Int) < 5
 rotate_left
 ·rw [if_neg c7] at H
  have c7b0 : decide ((t102.length : Int) < 5) = false := decide_eq_false c7
  have c7b1 : decide (t102.length < 5) = false := decide_eq_false (by omega)
  clear c7
  (first | rw [c7b0] | (simp only [i64_w, i32_w]; rw [c7b0]) | (simp only [c7b1, Bool.not_true, Bool.not_false]) | (simp only [c7b0, Bool.not_true, Bool.not_false]) | skip)
  by_cases c9 : 2 < (t102.length : Int)
  rotate_left
  ·rw [if_neg c9] at H
   exact absurd H (by simp)
  rw [if_pos c9] at H
  have c9b0 : decide (2 < (t102.length : Int)) = true := decide_eq_true c9
  have c9b1 : decide (2 < t102.length) = true := decide_eq_true (by omega)
  clear c9
  replace H := Option.bind_eq_some_iff.mp H
  obtain ⟨⟨t106, t107⟩, A100, H⟩ := H
  (try dsimp only at H)
  have A10 := Aside0.mk A100
  clear A100
  by_cases c11 : 3 < (t102.length : Int)
  rotate_left
  ·rw [if_neg c11] at H
   exact absurd H (by simp)
  rw [if_pos c11] at H
  have c11b0 : decide (3 < (t102.length : Int)) = true := decide_eq_true c11
  have c11b1 : decide (3 < t102.length) = true := decide_eq_true (by omega)
  clear c11
  replace H := Option.bind_eq_some_iff.mp H
  obtain ⟨⟨t109, t110, t111, t112⟩, A120, H⟩ := H
  (try dsimp only at H)
  have A12 := Aside0.mk A120
  clear A120
  by_cases c13 : 4 < (t102.length : Int)
  rotate_left
  ·rw [if_neg c13] at H
   exact absurd H (by simp)
  rw [if_pos c13] at H
  have c13b0 : decide (4 < (t102.length : Int)) = true := decide_eq_true c13
  have c13b1 : decide (4 < t102.length) = true := decide_eq_true (by omega)
  clear c13
  replace H := Option.bind_eq_some_iff.mp H
  obtain ⟨⟨t115, t116, t117⟩, A140, H⟩ := H
  (try dsimp only at H)
  have A14 := Aside0.mk A140
  clear A140
  by_cases c15 : 0 < (t102.length : Int)
  rotate_left
  ·rw [if_neg c15] at H
   exact absurd H (by simp)
  rw [if_pos c15] at H
  have c15b0 : decide (0 < (t102.length : Int)) = true := decide_eq_true c15
  have c15b1 : decide (0 < t102.length) = true := decide_eq_true (by omega)
  clear c15
  by_cases c16 : 1 < (t102.length : Int)
  rotate_left
  ·rw [if_neg c16] at H
   exact absurd H (by simp)
  rw [if_pos c16] at H
  have c16b0 : decide (1 < (t102.length : Int)) = true := decide_eq_true c16
  have c16b1 : decide (1 < t102.length) = true := decide_eq_true (by omega)
  clear c16
  have HC17 := Aside0.mk H
  clear H
  have p105 : 0 ≤ (2 : Int) := (by omega)
  have q105 : 2 < (t102.length : Int) := of_decide_eq_true (by assumption)
  obtain ⟨ad105, e105, hx105_0⟩ := Kd.bf_ (Kd.av_ HO104.out).2.2 2 p105 q105
  cases e105
  (try simp only [show (2 : Int).toNat = 2 from rfl, Nat.reduceMul, Nat.reduceEqDiff, Go.Addr.add, ↓reduceIte] at hx105_0)
  have qi105 : (2 < t102.length) = True := eq_true (by omega)
  (try rw [show ((2 : Int)).toNat = 2 from rfl] at hx105_0)
  replace p105 := eq_true p105
  replace q105 := eq_true q105
  try go_wp2_with (first | ((with_reducible refine af_ (f := 27) rfl ?_); refine aJ_ (some 27) rfl rfl Tryz.func27 (by kernel_rfl) rfl #[.string (rdOf ByteArray.empty t102 2)] rfl (by first | rfl | (simp only [lma_, lmc_, lmn_]; first | done | rfl)) ?_; (with_reducible refine (aj_.calls k (rdOf ByteArray.empty t102 2) t106 t107 _ A10.out).mono ?_); rintro e w' ⟨rfl, ⟨nd, rfl⟩⟩; refine ⟨_, rfl, ?_⟩; (try (rw [bm_ w5]; generalize hq_ : World.drewN w5 _ = w5; replace HO104 := Aside0.mk (rqR hq_ HO104.out); replace BK101 := Aside0.mk (rqB hq_ BK101.out); replace HB := Aside0.mk (rqH hq_ HB.out); clear hq_)); have p108 : 0 ≤ (3 : Int) := (by omega); have q108 : 3 < (t102.length : Int) := of_decide_eq_true (by assumption); obtain ⟨ad108, e108, hx108_0⟩ := Kd.bf_ (Kd.av_ HO104.out).2.2 3 p108 q108; obtain rfl : ad105 = ad108 := (by injection e108); (try simp only [show (3 : Int).toNat = 3 from rfl, Nat.reduceMul, Nat.reduceEqDiff, Go.Addr.add, ↓reduceIte] at hx108_0); have qi108 : (3 < t102.length) = True := eq_true (by omega); (try rw [show ((3 : Int)).toNat = 3 from rfl] at hx108_0); replace p108 := eq_true p108; replace q108 := eq_true q108) | ((with_reducible refine af_ (f := 28) rfl ?_); refine aJ_ (some 34) rfl rfl Tryz.func28 (by kernel_rfl) rfl #[.string (rdOf ByteArray.empty t102 3)] rfl (by first | rfl | (simp only [lma_, lmc_, lmn_]; first | done | rfl)) ?_; (with_reducible refine (cv_.calls k (rdOf ByteArray.empty t102 3) t109 t110 t111 t112 _ A12.out).mono ?_); rintro e w18 ⟨rfl, hb⟩; refine ⟨_, rfl, ?_⟩; replace HO104 := Aside0.mk (Kd.aV_ (rz HO104.out) hb); replace BK101 := Aside0.mk (an_ (kz BK101.out) hb); replace HB := Aside0.mk (ac_ (by repeat (first | (with_reducible first | exact HB.out | apply bA_ | apply bN_ | apply bD_ | refine aa_ ?_ GE101.out))) hb); (try clear hb)) | ((with_reducible refine aI_ (N := 7) rfl ?_); (try (refine cH_ (by rfl) ?_; dsimp only)); refine aR_ ?hg (N := 7) ?hd (cs := #[.string (⟨#[]⟩ : ByteArray), .int .i64 0, .int .i64 0]) (t := 40) ?hr ?_; (case hd => rfl); (case hg => rfl); (case hr => (go_simp; try rfl)); intro gb113 hg w19 hbox hb; replace HO104 := Aside0.mk (Kd.aV_ (rz HO104.out) hb); have BK113 := Aside0.mk (hbox); have GW113 := Aside0.mk ((by rw [hg]; exact (ad_ (by repeat (first | (with_reducible first | exact HB.out | apply bA_ | apply bN_ | apply bD_ | refine aa_ ?_ GE101.out)))) : w.heap.size ≤ gb113)); have GE113 := Aside0.mk ((by rw [hg]; exact (ad_ (by repeat (first | (with_reducible first | exact HB.out | apply bA_ | apply bN_ | apply bD_ | refine aa_ ?_ GE101.out)))) : w.heap.size ≤ gb113)); replace HB := Aside0.mk (ac_ (by repeat (first | (with_reducible first | exact HB.out | apply bA_ | apply bN_ | apply bD_ | refine aa_ ?_ GE101.out))) hb); have NB101_113 := Aside0.mk ((by rw [hg]; exact Nat.ne_of_lt (bF_ (kz BK101.out)) : gb101 ≠ gb113)); have NB113_101 := Aside0.mk ((by rw [hg]; exact Nat.ne_of_gt (bF_ (kz BK101.out)) : gb113 ≠ gb101)); replace BK101 := Aside0.mk (an_ (kz BK101.out) hb); clear hb hbox hg; have hnb20 := NB113_101.out; have hnc20 := NB101_113.out; obtain ⟨hcz21_0, hcz21_1, hcz21_2⟩ := cz3_ BK113.out; obtain ⟨hfz21_0, hfz21_1, hfz21_2⟩ := fz3_ BK113.out; have p114 : 0 ≤ (4 : Int) := (by omega); have q114 : 4 < (t102.length : Int) := of_decide_eq_true (by assumption); obtain ⟨ad114, e114, hx114_0⟩ := Kd.bf_ (Kd.av_ HO104.out).2.2 4 p114 q114; obtain rfl : ad105 = ad114 := (by injection e114); (try simp only [show (4 : Int).toNat = 4 from rfl, Nat.reduceMul, Nat.reduceEqDiff, Go.Addr.add, ↓reduceIte] at hx114_0); have qi114 : (4 < t102.length) = True := eq_true (by omega); (try rw [show ((4 : Int)).toNat = 4 from rfl] at hx114_0); have hn114_0 : ad105.block ≠ gb113 := Kd.aE_ (Kd.R_ne HO104.out BK113.out (by decide)); have hn114_1 : ad105.block ≠ gb113 := Kd.aE_ (Kd.R_ne HO104.out BK113.out (by decide)); have hn114_2 : ad105.block ≠ gb113 := Kd.aE_ (Kd.R_ne HO104.out BK113.out (by decide)); replace hx114_0 := (cell_far (p := ⟨gb113, 0, none⟩) (by first | (rw [add_block]; exact hn114_0) | (show (Addr.add _ _).block ≠ _; rw [add_block]; exact hn114_0) | exact hn114_0) (.string t109)).trans hx114_0; replace hx114_0 := (cell_far (p := ⟨gb113, 1, none⟩) (by first | (rw [add_block]; exact hn114_1) | (show (Addr.add _ _).block ≠ _; rw [add_block]; exact hn114_1) | exact hn114_1) (.int .i64 t110)).trans hx114_0; replace hx114_0 := (cell_far (p := ⟨gb113, 2, none⟩) (by first | (rw [add_block]; exact hn114_2) | (show (Addr.add _ _).block ≠ _; rw [add_block]; exact hn114_2) | exact hn114_2) (.int .i64 t111)).trans hx114_0; clear hn114_0; clear hn114_1; clear hn114_2; replace p114 := eq_true p114; replace q114 := eq_true q114) | ((with_reducible refine af_ (f := 29) rfl ?_); refine aJ_ (some 41) rfl rfl Tryz.func29 (by kernel_rfl) rfl #[.string (rdOf ByteArray.empty t102 4)] rfl (by first | rfl | (simp only [lma_, lmc_, lmn_]; first | done | rfl)) ?_; (with_reducible refine (cc_.calls k (rdOf ByteArray.empty t102 4) t115 t116 t117 _ A14.out).mono ?_); rintro e w22 ⟨rfl, hb⟩; refine ⟨_, rfl, ?_⟩; replace HO104 := Aside0.mk (Kd.aV_ (rz (Kd.bg_ (Kd.R_far (p := ⟨gb113, 2, none⟩) (Kd.R_far (p := ⟨gb113, 1, none⟩) (Kd.R_far (p := ⟨gb113, 0, none⟩) (Kd.bW_ HO104.out BK113.out (by decide)) (fun _ hk => hk.2) (.string t109)) (fun _ hk => hk.2) (.int .i64 t110)) (fun _ hk => hk.2) (.int .i64 t111)) (fun _ h_ => h_.1))) hb); replace BK101 := Aside0.mk (an_ (g := gb101) (o := .cells #[.string (⟨#[]⟩ : ByteArray), .string (⟨#[]⟩ : ByteArray), .int .i64 0, .string (⟨#[]⟩ : ByteArray), .int .i64 0, .int .i64 0, .int .i64 0, .int .i64 0, .slice none 0 0] 43 (0, 0)) (by exact kf (kf (kf (kz BK101.out) NB101_113.out) NB101_113.out) NB101_113.out) hb); replace BK113 := Aside0.mk (an_ (g := gb113) (o := .cells #[.string t109, .int .i64 t110, .int .i64 t111] 40 (0, 0)) (by exact kj3_2 (kj3_1 (kj3_0 (kz BK113.out)))) hb); replace HB := Aside0.mk (ac_ (by repeat (first | (with_reducible first | exact HB.out | apply bA_ | apply bN_ | apply bD_ | refine aa_ ?_ GE101.out | refine aa_ ?_ GE113.out))) hb); (try clear hb)))
  have n0_ := Aside0.mk (Kd.R_drew HO104.out)
  have n1_ := Aside0.mk (bH_ BK101.out)
  have n2_ := Aside0.mk (bH_ BK113.out)
  have n3_ := Aside0.mk (bD_ HB.out)
  clear HO104
  clear BK101
  clear BK113
  clear HB
  have HO104 := n0_
  have BK101 := n1_
  have BK113 := n2_
  have HB := n3_
  clear n0_ n1_ n2_ n3_
  have p118 : 0 ≤ (0 : Int) := (by omega)
  have q118 : 0 < (t102.length : Int) := of_decide_eq_true (by assumption)
  obtain ⟨ad118, e118, hx118_0⟩ := Kd.bf_ (Kd.av_ HO104.out).2.2 0 p118 q118
  obtain rfl : ad105 = ad118 := (by injection e118)
  have qi118 : (0 < t102.length) = True := eq_true (by omega)
  (try rw [show ((0 : Int)).toNat = 0 from rfl] at hx118_0)
  (try rw [Addr.add_zero'] at hx118_0)
  replace p118 := eq_true p118
  replace q118 := eq_true q118
  have p119 : 0 ≤ (1 : Int) := (by omega)
  have q119 : 1 < (t102.length : Int) := of_decide_eq_true (by assumption)
  obtain ⟨ad119, e119, hx119_0⟩ := Kd.bf_ (Kd.av_ HO104.out).2.2 1 p119 q119
  obtain rfl : ad105 = ad119 := (by injection e119)
  (try simp only [show (1 : Int).toNat = 1 from rfl, Nat.reduceMul, Nat.reduceEqDiff, Go.Addr.add, ↓reduceIte] at hx119_0)
  have qi119 : (1 < t102.length) = True := eq_true (by omega)
  (try rw [show ((1 : Int)).toNat = 1 from rfl] at hx119_0)
  replace p119 := eq_true p119
  replace q119 := eq_true q119
  refine start_ (n := 13) (S := fun w' => w'.cell? ⟨gb113, 0, none⟩ = some (.string t109) ∧ w'.cell? ⟨gb113, 1, none⟩ = some (.int .i64 t110) ∧ w'.cell? ⟨gb113, 2, none⟩ = some (.int .i64 t111) ∧ w'.cell? ad105 = some (.string (rdOf ByteArray.empty t102 0)) ∧ w'.cell? ⟨ad105.block, ad105.off + 1, none⟩ = some (.string (rdOf ByteArray.empty t102 1))) (ds := []) #[f_,f_,f_,f_,f_,f_,f_,f_,f_,f_,f_,f_,f_] (by kernel_rfl) rfl rfl ⟨(am_ BK113.out 0).trans rfl, (am_ BK113.out 1).trans rfl, (am_ BK113.out 2).trans rfl, hx118_0, hx119_0⟩ (fun hHeld => ?_); refine cl_ ax_.tab7 ax_.bits7 (fun HT_ HW_ => ?_)
  generalize w22.drew = w23 at HO104 BK101 BK113 HB hx118_0 hx119_0 hHeld ⊢
  refine pure_ (i := 0) (N := some 45) (v := ?_) (a' := ?_) #[t_,f_,f_,f_,f_,f_,f_,f_,f_,f_,f_,f_,f_] rfl rfl (aH_ HT_.out (by kernel_rfl)) (fun _ _ _ h => h) (Or.inl ⟨by rfl, ?_⟩) ?_ ?_
  rotate_left
  ·intro w'
   go_simp
   with_reducible rfl
  rotate_left
  ·simp only [Act.put, lsa_, ls0_, ls1_, i64_w, i32_w]
   rfl
  refine pure_ (i := 1) (N := some 46) (v := ?_) (a' := ?_) #[t_,t_,f_,f_,f_,f_,f_,f_,f_,f_,f_,f_,f_] rfl rfl (aH_ HT_.out (by kernel_rfl)) (fun _ _ _ h => h) (Or.inl ⟨by rfl, ?_⟩) ?_ ?_
  rotate_left
  ·intro w'
   go_simp
   with_reducible rfl
  rotate_left
  ·simp only [Act.put, lsa_, ls0_, ls1_, i64_w, i32_w]
   rfl
  refine pure_ (i := 3) (N := some 48) (v := ?_) (a' := ?_) #[t_,t_,f_,t_,f_,f_,f_,f_,f_,f_,f_,f_,f_] rfl rfl (aH_ HT_.out (by kernel_rfl)) (fun _ _ _ h => h) (Or.inl ⟨by rfl, ?_⟩) ?_ ?_
  rotate_left
  ·intro w'
   go_simp
   with_reducible rfl
  rotate_left
  ·simp only [Act.put, lsa_, ls0_, ls1_, i64_w, i32_w]
   rfl
  refine pure_ (i := 4) (N := some 49) (v := ?_) (a' := ?_) #[t_,t_,f_,t_,t_,f_,f_,f_,f_,f_,f_,f_,f_] rfl rfl (aH_ HT_.out (by kernel_rfl)) (fun _ _ _ h => h) (Or.inl ⟨by rfl, ?_⟩) ?_ ?_
  rotate_left
  ·intro w'
   go_simp
   with_reducible rfl
  rotate_left
  ·simp only [Act.put, lsa_, ls0_, ls1_, i64_w, i32_w]
   rfl
  refine pure_ (i := 6) (N := some 51) (v := ?_) (a' := ?_) #[t_,t_,f_,t_,t_,f_,t_,f_,f_,f_,f_,f_,f_] rfl rfl (aH_ HT_.out (by kernel_rfl)) (fun _ _ _ h => h) (Or.inl ⟨by rfl, ?_⟩) ?_ ?_
  rotate_left
  ·intro w'
   go_simp
   with_reducible rfl
  rotate_left
  ·simp only [Act.put, lsa_, ls0_, ls1_, i64_w, i32_w]
   rfl
  refine pure_ (i := 8) (N := some 53) (v := ?_) (a' := ?_) #[t_,t_,f_,t_,t_,f_,t_,f_,t_,f_,f_,f_,f_] rfl rfl (aH_ HT_.out (by kernel_rfl)) (fun _ _ _ h => h) (Or.inl ⟨by rfl, ?_⟩) ?_ ?_
  rotate_left
  ·intro w'
   go_simp
   with_reducible rfl
  rotate_left
  ·simp only [Act.put, lsa_, ls0_, ls1_, i64_w, i32_w]
   rfl
  refine pure_ (i := 9) (N := some 54) (v := ?_) (a' := ?_) #[t_,t_,f_,t_,t_,f_,t_,f_,t_,t_,f_,f_,f_] rfl rfl (aH_ HT_.out (by kernel_rfl)) (fun _ _ _ h => h) (Or.inl ⟨by rfl, ?_⟩) ?_ ?_
  rotate_left
  ·intro w'
   go_simp
   with_reducible rfl
  rotate_left
  ·simp only [Act.put, lsa_, ls0_, ls1_, i64_w, i32_w]
   rfl
  refine take_ (i := 2) (N := some 47) (v := ?_) (a' := ?_) #[t_,t_,t_,t_,t_,f_,t_,f_,t_,t_,f_,f_,f_] rfl rfl (bt_ HT_.out HW_.out (by kernel_rfl)) (fun _ _ _ h => h) (Or.inl ⟨by rfl, ?_⟩) hHeld ?_ ?_
  rotate_left
  ·rintro w' ⟨s0, s1, s2, s3, s4⟩
   go_simp
   with_reducible rfl
  rotate_left
  ·simp only [Act.put, lsa_, ls0_, ls1_, i64_w, i32_w]
   rfl
  refine take_ (i := 5) (N := some 50) (v := ?_) (a' := ?_) #[t_,t_,t_,t_,t_,t_,t_,f_,t_,t_,f_,f_,f_] rfl rfl (bt_ HT_.out HW_.out (by kernel_rfl)) (fun _ _ _ h => h) (Or.inl ⟨by rfl, ?_⟩) hHeld ?_ ?_
  rotate_left
  ·rintro w' ⟨s0, s1, s2, s3, s4⟩
   go_simp
   with_reducible rfl
  rotate_left
  ·simp only [Act.put, lsa_, ls0_, ls1_, i64_w, i32_w]
   rfl
  refine take_ (i := 7) (N := some 52) (v := ?_) (a' := ?_) #[t_,t_,t_,t_,t_,t_,t_,t_,t_,t_,f_,f_,f_] rfl rfl (bt_ HT_.out HW_.out (by kernel_rfl)) (fun _ _ _ h => h) (Or.inl ⟨by rfl, ?_⟩) hHeld ?_ ?_
  rotate_left
  ·rintro w' ⟨s0, s1, s2, s3, s4⟩
   go_simp
   with_reducible rfl
  rotate_left
  ·simp only [Act.put, lsa_, ls0_, ls1_, i64_w, i32_w]
   rfl
  refine pure_ (i := 10) (N := some 55) (v := ?_) (a' := ?_) #[t_,t_,t_,t_,t_,t_,t_,t_,t_,t_,t_,f_,f_] rfl rfl (aH_ HT_.out (by kernel_rfl)) (fun _ _ _ h => h) (Or.inl ⟨by rfl, ?_⟩) ?_ ?_
  rotate_left
  ·intro w'
   go_simp
   with_reducible rfl
  rotate_left
  ·simp only [Act.put, lsa_, ls0_, ls1_, i64_w, i32_w]
   rfl
  refine one_ (i := 11) (N := some 12) #[t_,t_,t_,t_,t_,t_,t_,t_,t_,t_,t_,t_,f_] rfl rfl (ct_ HT_.out (by kernel_rfl)) (by decide) (fun K hK => ?_)
  refine box_step ?hg (N := 12) ?hd (cs := #[.string (⟨#[]⟩ : ByteArray), .string (⟨#[]⟩ : ByteArray), .int .i64 0, .string (⟨#[]⟩ : ByteArray), .int .i64 0, .int .i64 0, .int .i64 0, .int .i64 0, .slice none 0 0]) (t := 43) ?hr ?_; (case hd => rfl); (case hg => rfl); (case hr => (go_simp; try rfl))
  intro gb120 hg w24 hbox hb
  have HS3_ := (hb.cell (bl_ _ _ (hHeld.2.2.2.1))).trans (hHeld.2.2.2.1)
  have HS4_ := (hb.cell (bl_ _ _ (hHeld.2.2.2.2))).trans (hHeld.2.2.2.2)
  have n0_ := Aside0.mk (Kd.aV_ (rz HO104.out) hb)
  have n1_ := Aside0.mk (an_ (kz BK101.out) hb)
  have n2_ := Aside0.mk (an_ (kz BK113.out) hb)
  have n3_ := Aside0.mk (ac_ (by repeat (first | (with_reducible first | exact HB.out | apply bA_ | apply bN_ | apply bD_ | refine aa_ ?_ GE101.out | refine aa_ ?_ GE113.out))) hb)
  have n4_ := Aside0.mk (hbox)
  have n5_ := Aside0.mk ((by rw [hg]; exact (ad_ (by repeat (first | (with_reducible first | exact HB.out | apply bA_ | apply bN_ | apply bD_ | refine aa_ ?_ GE101.out | refine aa_ ?_ GE113.out)))) : w.heap.size ≤ gb120))
  have n6_ := Aside0.mk ((by rw [hg]; exact (ad_ (by repeat (first | (with_reducible first | exact HB.out | apply bA_ | apply bN_ | apply bD_ | refine aa_ ?_ GE101.out | refine aa_ ?_ GE113.out)))) : w.heap.size ≤ gb120))
  have n7_ := Aside0.mk ((by rw [hg]; exact Nat.ne_of_lt (bF_ (kz BK101.out)) : gb101 ≠ gb120))
  have n8_ := Aside0.mk ((by rw [hg]; exact Nat.ne_of_gt (bF_ (kz BK101.out)) : gb120 ≠ gb101))
  have n9_ := Aside0.mk ((by rw [hg]; exact Nat.ne_of_lt (bF_ (kz BK113.out)) : gb113 ≠ gb120))
  have n10_ := Aside0.mk ((by rw [hg]; exact Nat.ne_of_gt (bF_ (kz BK113.out)) : gb120 ≠ gb113))
  clear HO104
  clear BK101
  clear BK113
  clear HB
  have HO104 := n0_
  have BK101 := n1_
  have BK113 := n2_
  have HB := n3_
  have BK120 := n4_
  have GW120 := n5_
  have GE120 := n6_
  have NB101_120 := n7_
  have NB120_101 := n8_
  have NB113_120 := n9_
  have NB120_113 := n10_
  clear n0_ n1_ n2_ n3_ n4_ n5_ n6_ n7_ n8_ n9_ n10_
  clear hb hbox hg
  refine hK.out _ _ ⟨(am_ BK113.out 0).trans rfl, (am_ BK113.out 1).trans rfl, (am_ BK113.out 2).trans rfl, HS3_, HS4_⟩ (fun hHeld => ?_)
  clear hK K
  refine norm_ (a' := ?_) ?_ ?_
  rotate_left
  ·show Act.put _ (some 12) _ = _
   simp only [Act.put, lsa_, ls0_, ls1_, i64_w, i32_w]
   rfl
  refine one_ (i := 12) (N := none) #[t_,t_,t_,t_,t_,t_,t_,t_,t_,t_,t_,t_,t_] rfl rfl (ct_ HT_.out (by kernel_rfl)) (by decide) (fun K hK => ?_)
  have hs25 : w24.cell? ⟨gb120, 0, none⟩ = some (.string (⟨#[]⟩ : ByteArray)) := (am_ BK120.out 0).trans rfl
  have hfs25 := aY_ BK120.out 0
  have hns25_0 := NB101_120.out
  have hns25_1 := NB113_120.out
  have hms25_0 := NB120_101.out
  have hms25_1 := NB120_113.out
  have hs26 : w24.cell? ⟨gb120, 1, none⟩ = some (.string (⟨#[]⟩ : ByteArray)) := (am_ BK120.out 1).trans rfl
  have hfs26 := aY_ BK120.out 1
  have hns26_0 := NB101_120.out
  have hns26_1 := NB113_120.out
  have hms26_0 := NB120_101.out
  have hms26_1 := NB120_113.out
  have hs27 : w24.cell? ⟨gb120, 2, none⟩ = some (.int .i64 0) := (am_ BK120.out 2).trans rfl
  have hfs27 := aY_ BK120.out 2
  have hns27_0 := NB101_120.out
  have hns27_1 := NB113_120.out
  have hms27_0 := NB120_101.out
  have hms27_1 := NB120_113.out
  have hs28 : w24.cell? ⟨gb120, 3, none⟩ = some (.string (⟨#[]⟩ : ByteArray)) := (am_ BK120.out 3).trans rfl
  have hfs28 := aY_ BK120.out 3
  have hns28_0 := NB101_120.out
  have hns28_1 := NB113_120.out
  have hms28_0 := NB120_101.out
  have hms28_1 := NB120_113.out
  have hs29 : w24.cell? ⟨gb120, 4, none⟩ = some (.int .i64 0) := (am_ BK120.out 4).trans rfl
  have hfs29 := aY_ BK120.out 4
  have hns29_0 := NB101_120.out
  have hns29_1 := NB113_120.out
  have hms29_0 := NB120_101.out
  have hms29_1 := NB120_113.out
  have hs30 : w24.cell? ⟨gb120, 5, none⟩ = some (.int .i64 0) := (am_ BK120.out 5).trans rfl
  have hfs30 := aY_ BK120.out 5
  have hns30_0 := NB101_120.out
  have hns30_1 := NB113_120.out
  have hms30_0 := NB120_101.out
  have hms30_1 := NB120_113.out
  have hs31 : w24.cell? ⟨gb120, 6, none⟩ = some (.int .i64 0) := (am_ BK120.out 6).trans rfl
  have hfs31 := aY_ BK120.out 6
  have hns31_0 := NB101_120.out
  have hns31_1 := NB113_120.out
  have hms31_0 := NB120_101.out
  have hms31_1 := NB120_113.out
  have hs32 : w24.cell? ⟨gb120, 7, none⟩ = some (.int .i64 0) := (am_ BK120.out 7).trans rfl
  have hfs32 := aY_ BK120.out 7
  have hns32_0 := NB101_120.out
  have hns32_1 := NB113_120.out
  have hms32_0 := NB120_101.out
  have hms32_1 := NB120_113.out
  have hs33 : w24.cell? ⟨gb120, 8, none⟩ = some (.slice none 0 0) := (am_ BK120.out 8).trans rfl
  have hfs33 := aY_ BK120.out 8
  have hns33_0 := NB101_120.out
  have hns33_1 := NB113_120.out
  have hms33_0 := NB120_101.out
  have hms33_1 := NB120_113.out
  refine skip_ (w1 := ?_) (by rfl) rfl ?_ ?_
  rotate_left
  ·go_simp
   rfl
  refine hK.out _ _ ⟨(cf ((cf ((cf ((cf ((cf ((cf ((cf ((cf ((cf (hHeld.1) NB113_120.out)) NB113_120.out)) NB113_120.out)) NB113_120.out)) NB113_120.out)) NB113_120.out)) NB113_120.out)) NB113_120.out)) NB113_120.out), (cf ((cf ((cf ((cf ((cf ((cf ((cf ((cf ((cf (hHeld.2.1) NB113_120.out)) NB113_120.out)) NB113_120.out)) NB113_120.out)) NB113_120.out)) NB113_120.out)) NB113_120.out)) NB113_120.out)) NB113_120.out), (cf ((cf ((cf ((cf ((cf ((cf ((cf ((cf ((cf (hHeld.2.2.1) NB113_120.out)) NB113_120.out)) NB113_120.out)) NB113_120.out)) NB113_120.out)) NB113_120.out)) NB113_120.out)) NB113_120.out)) NB113_120.out), (cf ((cf ((cf ((cf ((cf ((cf ((cf ((cf ((cf (hHeld.2.2.2.1) (by first | exact Kd.aE_ (Kd.R_ne HO104.out BK120.out (by decide)) | (dsimp only; exact Kd.aE_ (Kd.R_ne HO104.out BK120.out (by decide)))))) (by first | exact Kd.aE_ (Kd.R_ne HO104.out BK120.out (by decide)) | (dsimp only; exact Kd.aE_ (Kd.R_ne HO104.out BK120.out (by decide)))))) (by first | exact Kd.aE_ (Kd.R_ne HO104.out BK120.out (by decide)) | (dsimp only; exact Kd.aE_ (Kd.R_ne HO104.out BK120.out (by decide)))))) (by first | exact Kd.aE_ (Kd.R_ne HO104.out BK120.out (by decide)) | (dsimp only; exact Kd.aE_ (Kd.R_ne HO104.out BK120.out (by decide)))))) (by first | exact Kd.aE_ (Kd.R_ne HO104.out BK120.out (by decide)) | (dsimp only; exact Kd.aE_ (Kd.R_ne HO104.out BK120.out (by decide)))))) (by first | exact Kd.aE_ (Kd.R_ne HO104.out BK120.out (by decide)) | (dsimp only; exact Kd.aE_ (Kd.R_ne HO104.out BK120.out (by decide)))))) (by first | exact Kd.aE_ (Kd.R_ne HO104.out BK120.out (by decide)) | (dsimp only; exact Kd.aE_ (Kd.R_ne HO104.out BK120.out (by decide)))))) (by first | exact Kd.aE_ (Kd.R_ne HO104.out BK120.out (by decide)) | (dsimp only; exact Kd.aE_ (Kd.R_ne HO104.out BK120.out (by decide)))))) (by first | exact Kd.aE_ (Kd.R_ne HO104.out BK120.out (by decide)) | (dsimp only; exact Kd.aE_ (Kd.R_ne HO104.out BK120.out (by decide))))), (cf ((cf ((cf ((cf ((cf ((cf ((cf ((cf ((cf (hHeld.2.2.2.2) (by first | exact Kd.aE_ (Kd.R_ne HO104.out BK120.out (by decide)) | (dsimp only; exact Kd.aE_ (Kd.R_ne HO104.out BK120.out (by decide)))))) (by first | exact Kd.aE_ (Kd.R_ne HO104.out BK120.out (by decide)) | (dsimp only; exact Kd.aE_ (Kd.R_ne HO104.out BK120.out (by decide)))))) (by first | exact Kd.aE_ (Kd.R_ne HO104.out BK120.out (by decide)) | (dsimp only; exact Kd.aE_ (Kd.R_ne HO104.out BK120.out (by decide)))))) (by first | exact Kd.aE_ (Kd.R_ne HO104.out BK120.out (by decide)) | (dsimp only; exact Kd.aE_ (Kd.R_ne HO104.out BK120.out (by decide)))))) (by first | exact Kd.aE_ (Kd.R_ne HO104.out BK120.out (by decide)) | (dsimp only; exact Kd.aE_ (Kd.R_ne HO104.out BK120.out (by decide)))))) (by first | exact Kd.aE_ (Kd.R_ne HO104.out BK120.out (by decide)) | (dsimp only; exact Kd.aE_ (Kd.R_ne HO104.out BK120.out (by decide)))))) (by first | exact Kd.aE_ (Kd.R_ne HO104.out BK120.out (by decide)) | (dsimp only; exact Kd.aE_ (Kd.R_ne HO104.out BK120.out (by decide)))))) (by first | exact Kd.aE_ (Kd.R_ne HO104.out BK120.out (by decide)) | (dsimp only; exact Kd.aE_ (Kd.R_ne HO104.out BK120.out (by decide)))))) (by first | exact Kd.aE_ (Kd.R_ne HO104.out BK120.out (by decide)) | (dsimp only; exact Kd.aE_ (Kd.R_ne HO104.out BK120.out (by decide)))))⟩ (fun hHeld => ?_)
  clear hK K
  refine done_ (cN_ HT_.out (by kernel_rfl)) ?_
  go_upto_region 8 with (fail)
  go_cut [13] (fun v13 wc => ∃ (kq : Nat) (x13_16 : Bool), v13 = .bool x13_16 ∧ Aside0 (ax_.j0 kq t102 x13_16 (rdOf ByteArray.empty t102 0) (rdOf ByteArray.empty t102 1) t106 t109 t110 t111 t115 t116 = some (r1, r2, r3, r4, r5, r6, r7, r8, r9, r10)) ∧ Aside0 (kq ≤ k) ∧ Aside0 (Kd.R Kd.string 9 wc w.heap.size (fun _ => True) (.slice (some ad105) t102.length co6) t102) ∧ Aside0 (wc.heap[gb101]? = some (.cells #[.string (⟨#[]⟩ : ByteArray), .string (⟨#[]⟩ : ByteArray), .int .i64 0, .string (⟨#[]⟩ : ByteArray), .int .i64 0, .int .i64 0, .int .i64 0, .int .i64 0, (.slice none 0 0)] 43 (0, 0))) ∧ Aside0 (wc.heap[gb113]? = some (.cells #[.string t109, .int .i64 t110, .int .i64 t111] 40 (0, 0))) ∧ Aside0 (wc.heap[gb120]? = some (.cells #[.string (rdOf ByteArray.empty t102 0), .string (rdOf ByteArray.empty t102 1), .int .i64 t106, .string t109, .int .i64 t110, .int .i64 t111, .int .i64 t115, .int .i64 t116, (.slice none 0 0)] 43 (0, 0))) ∧ Aside0 (Below w.heap.size w wc))
  case first =>
   have H := HC17.out
   clear HC17
   by_cases c34 : t107 = true
   rotate_left
   ·replace c34 := Bool.eq_false_iff.mpr c34
    subst c34
    have H1 : (ax_.j0 k t102 false (rdOf ByteArray.empty t102 0) (rdOf ByteArray.empty t102 1) t106 t109 t110 t111 t115 t116) = some (r1, r2, r3, r4, r5, r6, r7, r8, r9, r10) := by rw [if_neg (show ¬ (false = true) by decide)] at H; exact H
    clear H
    have H := H1
    clear H1
    have H' := Aside0.mk H
    clear H
    go_wp2
    go_meet
    case rel => exact ⟨_, (false), (by first | rfl | (simp; done) | (simp [*]; done)), H', ⟨by first | omega | exact Nat.le_refl _⟩, ⟨rz (Kd.bg_ (Kd.R_far (p := ⟨gb120, 8, none⟩) (Kd.R_far (p := ⟨gb120, 7, none⟩) (Kd.R_far (p := ⟨gb120, 6, none⟩) (Kd.R_far (p := ⟨gb120, 5, none⟩) (Kd.R_far (p := ⟨gb120, 4, none⟩) (Kd.R_far (p := ⟨gb120, 3, none⟩) (Kd.R_far (p := ⟨gb120, 2, none⟩) (Kd.R_far (p := ⟨gb120, 1, none⟩) (Kd.R_far (p := ⟨gb120, 0, none⟩) (Kd.bW_ HO104.out BK120.out (by decide)) (fun _ hk => hk.2) (.string (rdOf ByteArray.empty t102 0))) (fun _ hk => hk.2) (.string (rdOf ByteArray.empty t102 1))) (fun _ hk => hk.2) (.int .i64 t106)) (fun _ hk => hk.2) (.string t109)) (fun _ hk => hk.2) (.int .i64 t110)) (fun _ hk => hk.2) (.int .i64 t111)) (fun _ hk => hk.2) (.int .i64 t115)) (fun _ hk => hk.2) (.int .i64 t116)) (fun _ hk => hk.2) (.slice none 0 0)) (fun _ hk => trivial))⟩, ⟨by exact kf (kf (kf (kf (kf (kf (kf (kf (kf (kz BK101.out) NB101_120.out) NB101_120.out) NB101_120.out) NB101_120.out) NB101_120.out) NB101_120.out) NB101_120.out) NB101_120.out) NB101_120.out⟩, ⟨by exact kf (kf (kf (kf (kf (kf (kf (kf (kf (kz BK113.out) NB113_120.out) NB113_120.out) NB113_120.out) NB113_120.out) NB113_120.out) NB113_120.out) NB113_120.out) NB113_120.out) NB113_120.out⟩, ⟨by exact kj9_8 (kj9_7 (kj9_6 (kj9_5 (kj9_4 (kj9_3 (kj9_2 (kj9_1 (kj9_0 (kz BK120.out)))))))))⟩, ⟨by repeat (first | (with_reducible first | exact HB.out | apply bA_ | apply bN_ | apply bD_ | refine aa_ ?_ GE101.out | refine aa_ ?_ GE113.out | refine aa_ ?_ GE120.out))⟩⟩
   subst c34
   have H1 : (if t112 = true then (ax_.j0 k t102 t117 (rdOf ByteArray.empty t102 0) (rdOf ByteArray.empty t102 1) t106 t109 t110 t111 t115 t116) else (ax_.j0 k t102 false (rdOf ByteArray.empty t102 0) (rdOf ByteArray.empty t102 1) t106 t109 t110 t111 t115 t116)) = some (r1, r2, r3, r4, r5, r6, r7, r8, r9, r10) := by rw [if_pos rfl] at H; exact H
   clear H
   have H := H1
   clear H1
   by_cases c35 : t112 = true
   rotate_left
   ·replace c35 := Bool.eq_false_iff.mpr c35
    subst c35
    have H1 : (ax_.j0 k t102 false (rdOf ByteArray.empty t102 0) (rdOf ByteArray.empty t102 1) t106 t109 t110 t111 t115 t116) = some (r1, r2, r3, r4, r5, r6, r7, r8, r9, r10) := by rw [if_neg (show ¬ (false = true) by decide)] at H; exact H
    clear H
    have H := H1
    clear H1
    have H' := Aside0.mk H
    clear H
    go_wp2
    go_meet
    case rel => exact ⟨_, (false), (by first | rfl | (simp; done) | (simp [*]; done)), H', ⟨by first | omega | exact Nat.le_refl _⟩, ⟨rz (Kd.bg_ (Kd.R_far (p := ⟨gb120, 8, none⟩) (Kd.R_far (p := ⟨gb120, 7, none⟩) (Kd.R_far (p := ⟨gb120, 6, none⟩) (Kd.R_far (p := ⟨gb120, 5, none⟩) (Kd.R_far (p := ⟨gb120, 4, none⟩) (Kd.R_far (p := ⟨gb120, 3, none⟩) (Kd.R_far (p := ⟨gb120, 2, none⟩) (Kd.R_far (p := ⟨gb120, 1, none⟩) (Kd.R_far (p := ⟨gb120, 0, none⟩) (Kd.bW_ HO104.out BK120.out (by decide)) (fun _ hk => hk.2) (.string (rdOf ByteArray.empty t102 0))) (fun _ hk => hk.2) (.string (rdOf ByteArray.empty t102 1))) (fun _ hk => hk.2) (.int .i64 t106)) (fun _ hk => hk.2) (.string t109)) (fun _ hk => hk.2) (.int .i64 t110)) (fun _ hk => hk.2) (.int .i64 t111)) (fun _ hk => hk.2) (.int .i64 t115)) (fun _ hk => hk.2) (.int .i64 t116)) (fun _ hk => hk.2) (.slice none 0 0)) (fun _ hk => trivial))⟩, ⟨by exact kf (kf (kf (kf (kf (kf (kf (kf (kf (kz BK101.out) NB101_120.out) NB101_120.out) NB101_120.out) NB101_120.out) NB101_120.out) NB101_120.out) NB101_120.out) NB101_120.out) NB101_120.out⟩, ⟨by exact kf (kf (kf (kf (kf (kf (kf (kf (kf (kz BK113.out) NB113_120.out) NB113_120.out) NB113_120.out) NB113_120.out) NB113_120.out) NB113_120.out) NB113_120.out) NB113_120.out) NB113_120.out⟩, ⟨by exact kj9_8 (kj9_7 (kj9_6 (kj9_5 (kj9_4 (kj9_3 (kj9_2 (kj9_1 (kj9_0 (kz BK120.out)))))))))⟩, ⟨by repeat (first | (with_reducible first | exact HB.out | apply bA_ | apply bN_ | apply bD_ | refine aa_ ?_ GE101.out | refine aa_ ?_ GE113.out | refine aa_ ?_ GE120.out))⟩⟩
   subst c35
   have H1 : (ax_.j0 k t102 t117 (rdOf ByteArray.empty t102 0) (rdOf ByteArray.empty t102 1) t106 t109 t110 t111 t115 t116) = some (r1, r2, r3, r4, r5, r6, r7, r8, r9, r10) := by rw [if_pos rfl] at H; exact H
   clear H
   have H := H1
   clear H1
   have H' := Aside0.mk H
   clear H
   go_wp2
   go_meet
   case rel => exact ⟨_, (t117), (by first | rfl | (simp; done) | (simp [*]; done)), H', ⟨by first | omega | exact Nat.le_refl _⟩, ⟨rz (Kd.bg_ (Kd.R_far (p := ⟨gb120, 8, none⟩) (Kd.R_far (p := ⟨gb120, 7, none⟩) (Kd.R_far (p := ⟨gb120, 6, none⟩) (Kd.R_far (p := ⟨gb120, 5, none⟩) (Kd.R_far (p := ⟨gb120, 4, none⟩) (Kd.R_far (p := ⟨gb120, 3, none⟩) (Kd.R_far (p := ⟨gb120, 2, none⟩) (Kd.R_far (p := ⟨gb120, 1, none⟩) (Kd.R_far (p := ⟨gb120, 0, none⟩) (Kd.bW_ HO104.out BK120.out (by decide)) (fun _ hk => hk.2) (.string (rdOf ByteArray.empty t102 0))) (fun _ hk => hk.2) (.string (rdOf ByteArray.empty t102 1))) (fun _ hk => hk.2) (.int .i64 t106)) (fun _ hk => hk.2) (.string t109)) (fun _ hk => hk.2) (.int .i64 t110)) (fun _ hk => hk.2) (.int .i64 t111)) (fun _ hk => hk.2) (.int .i64 t115)) (fun _ hk => hk.2) (.int .i64 t116)) (fun _ hk => hk.2) (.slice none 0 0)) (fun _ hk => trivial))⟩, ⟨by exact kf (kf (kf (kf (kf (kf (kf (kf (kf (kz BK101.out) NB101_120.out) NB101_120.out) NB101_120.out) NB101_120.out) NB101_120.out) NB101_120.out) NB101_120.out) NB101_120.out) NB101_120.out⟩, ⟨by exact kf (kf (kf (kf (kf (kf (kf (kf (kf (kz BK113.out) NB113_120.out) NB113_120.out) NB113_120.out) NB113_120.out) NB113_120.out) NB113_120.out) NB113_120.out) NB113_120.out) NB113_120.out⟩, ⟨by exact kj9_8 (kj9_7 (kj9_6 (kj9_5 (kj9_4 (kj9_3 (kj9_2 (kj9_1 (kj9_0 (kz BK120.out)))))))))⟩, ⟨by repeat (first | (with_reducible first | exact HB.out | apply bA_ | apply bN_ | apply bD_ | refine aa_ ?_ GE101.out | refine aa_ ?_ GE113.out | refine aa_ ?_ GE120.out))⟩⟩
  case rest =>
   clear HC17
   obtain ⟨kq, x13_16, rfl, HA, HJ16, HO_4, BK101, BK113, BK120, HB⟩ := hcut
   cases kq with
   | zero => exact absurd HA.out (by simp [ax_.j0])
   | succ kj16 =>
    have H := HA.out
    clear HA
    simp only [ax_.j0] at H
    have H' := Aside0.mk H
    clear H
    go_wp2
    (try simp only [Act.put, lsa_, ls0_, ls1_])
    go_loopg [14] kj16 (fun kq v14 w' => ∃ (x14_2 : Int) (x102000_2 : ByteArray) (x102001_2 : ByteArray) (x102002_2 : Int) (x102003_2 : ByteArray) (x102004_2 : Int) (x102005_2 : Int) (x102006_2 : Int) (x102007_2 : Int) (x121008_2 : List (S66)) (u121008 : Value), v14 = .int .i64 x14_2 ∧ Aside0 (ax_.l0 kq t102 x13_16 x14_2 (rdOf ByteArray.empty t102 0) (rdOf ByteArray.empty t102 1) t106 t109 t110 t111 t115 t116 x121008_2 = some (r1, r2, r3, r4, r5, r6, r7, r8, r9, r10)) ∧ Aside0 (kq ≤ kj16) ∧ Aside0 (Kd.R Kd.string 9 w' w.heap.size (fun _ => True) (.slice (some ad105) t102.length co6) t102) ∧ Aside0 (Kd.R k66 66 w' w.heap.size (fun _ => True) u121008 x121008_2) ∧ Aside0 (w'.heap[gb101]? = some (.cells #[.string x102000_2, .string x102001_2, .int .i64 x102002_2, .string x102003_2, .int .i64 x102004_2, .int .i64 x102005_2, .int .i64 x102006_2, .int .i64 x102007_2, (.slice none 0 0)] 43 (0, 0))) ∧ Aside0 (w'.heap[gb113]? = some (.cells #[.string t109, .int .i64 t110, .int .i64 t111] 40 (0, 0))) ∧ Aside0 (w'.heap[gb120]? = some (.cells #[.string (rdOf ByteArray.empty t102 0), .string (rdOf ByteArray.empty t102 1), .int .i64 t106, .string t109, .int .i64 t110, .int .i64 t111, .int .i64 t115, .int .i64 t116, u121008] 43 (0, 0))) ∧ Aside0 (Below w.heap.size w w'))
    case atStart => exact ⟨(5), ((⟨#[]⟩ : ByteArray)), ((⟨#[]⟩ : ByteArray)), (0), ((⟨#[]⟩ : ByteArray)), (0), (0), (0), (0), (([] : List (S66))), (.slice none 0 0), (by first | rfl | (simp; done) | (simp [*]; done)), H', ⟨Nat.le_refl _⟩, ⟨rz HO_4.out⟩, ⟨by first | exact Kd.R_nil _ _ _ _ _ | exact Kd.N_nil _ _ _ _ _ | exact Kd.V_nil _ _ _ _ _ | exact Kd.Q_nil _ _ _ _ _ | exact Kd.S_nil _ _ _ _ _⟩, ⟨by (with_reducible repeat (first | refine cd_ ?_ _ | refine bH_ ?_ | refine bE_ ?_ _)); exact BK101.out⟩, ⟨by (with_reducible repeat (first | refine cd_ ?_ _ | refine bH_ ?_ | refine bE_ ?_ _)); exact BK113.out⟩, ⟨by (with_reducible repeat (first | refine cd_ ?_ _ | refine bH_ ?_ | refine bE_ ?_ _)); exact BK120.out⟩, ⟨by repeat (first | (with_reducible first | exact HB.out | apply bA_ | apply bN_ | apply bD_ | refine aa_ ?_ GE101.out | refine aa_ ?_ GE113.out | refine aa_ ?_ GE120.out))⟩⟩
    case round =>
     clear H'
     obtain ⟨x14_2, x102000_2, x102001_2, x102002_2, x102003_2, x102004_2, x102005_2, x102006_2, x102007_2, x121008_2, u121008, rfl, HA, HK2, HO_4, HO_121008, BK101, BK113, BK120, HB⟩ := hrel
     cases gk with
     | zero => exact absurd HA.out (by simp [ax_.l0])
     | succ k2 =>
      have H := HA.out
      clear HA
      simp only [ax_.l0] at H
      by_cases c36 : x14_2 < (t102.length : Int)
      rotate_left
      ·rw [if_neg c36] at H
       have c36b0 : decide (x14_2 < (t102.length : Int)) = false := decide_eq_false c36
       clear c36
       by_cases c60 : x13_16 = true
       rotate_left
       ·replace c60 := Bool.eq_false_iff.mpr c60
        subst c60
        have H1 : (some ((⟨#[]⟩ : ByteArray), (⟨#[]⟩ : ByteArray), 0, (⟨#[]⟩ : ByteArray), 0, 0, 0, 0, ([] : List (S66)), false)) = some (r1, r2, r3, r4, r5, r6, r7, r8, r9, r10) := by rw [if_neg (show ¬ (false = true) by decide)] at H; exact H
        clear H
        have H := H1
        clear H1
        simp only [Option.some.injEq, Prod.mk.injEq] at H
        obtain ⟨rfl, rfl, rfl, rfl, rfl, rfl, rfl, rfl, rfl, rfl⟩ := H
        have hnb74 := NB101_113.out
        have hnc74 := NB113_101.out
        have hnb75 := NB101_120.out
        have hnc75 := NB120_101.out
        obtain ⟨hcz76_0, hcz76_1, hcz76_2, hcz76_3, hcz76_4, hcz76_5, hcz76_6, hcz76_7, hcz76_8⟩ := cz9_ BK101.out
        obtain ⟨hfz76_0, hfz76_1, hfz76_2, hfz76_3, hfz76_4, hfz76_5, hfz76_6, hfz76_7, hfz76_8⟩ := fz9_ BK101.out
        go_wp2
        refine bodyPost_ret (bB_ rfl _ _ gb101 43 #[.string (⟨#[]⟩ : ByteArray), .string (⟨#[]⟩ : ByteArray), .int .i64 0, .string (⟨#[]⟩ : ByteArray), .int .i64 0, .int .i64 0, .int .i64 0, .int .i64 0, .slice none 0 0] (0, 0) _ rfl (by exact kj9_8 (kj9_7 (kj9_6 (kj9_5 (kj9_4 (kj9_3 (kj9_2 (kj9_1 (kj9_0 (kz BK101.out)))))))))) Tryz.underlying43 rfl (by kernel_rfl)) rfl ?_
        exact ⟨_, by first | rfl | (simp [*, ai_, ah_] <;> rfl), by first | exact Kd.R_nil _ _ _ _ _ | exact Kd.N_nil _ _ _ _ _ | exact Kd.V_nil _ _ _ _ _ | exact Kd.Q_nil _ _ _ _ _ | exact Kd.S_nil _ _ _ _ _, by repeat (first | (with_reducible first | exact HB.out | apply bA_ | apply bN_ | apply bD_ | refine aa_ ?_ GE101.out | refine aa_ ?_ GE113.out | refine aa_ ?_ GE120.out))⟩
       subst c60
       have H1 : ((as_.f k2 [(⟨(rdOf ByteArray.empty t102 0), (rdOf ByteArray.empty t102 1), t106, (⟨t109, t110, t111⟩ : S40), t115, t116, x121008_2⟩ : S43)]).bind fun t133 => (if t133 = true then (some ((rdOf ByteArray.empty t102 0), (rdOf ByteArray.empty t102 1), t106, t109, t110, t111, t115, t116, x121008_2, true)) else (some ((⟨#[]⟩ : ByteArray), (⟨#[]⟩ : ByteArray), 0, (⟨#[]⟩ : ByteArray), 0, 0, 0, 0, ([] : List (S66)), false)))) = some (r1, r2, r3, r4, r5, r6, r7, r8, r9, r10) := by rw [if_pos rfl] at H; exact H
       clear H
       have H := H1
       clear H1
       replace H := Option.bind_eq_some_iff.mp H
       obtain ⟨t133, A610, H⟩ := H
       (try dsimp only at H)
       have A61 := Aside0.mk A610
       clear A610
       have HC62 := Aside0.mk H
       clear H
       obtain ⟨Ao63, co63, eo63⟩ := Kd.bv_ HO_121008.out
       subst eo63
       go_upto_if 108 with (first | (go_at_call 31; (with_reducible refine (as_.calls k2 _ [(⟨(rdOf ByteArray.empty t102 0), (rdOf ByteArray.empty t102 1), t106, (⟨t109, t110, t111⟩ : S40), t115, t116, x121008_2⟩ : S43)] t133 _ ?side1 A61.out).mono ?_); (case side1 => exact (RPW.C_blk (cs := [.string (rdOf ByteArray.empty t102 0), .string (rdOf ByteArray.empty t102 1), .int .i64 t106, .string t109, .int .i64 t110, .int .i64 t111, .int .i64 t115, .int .i64 t116, .slice Ao63 x121008_2.length co63]) (t := 43) (g := gb120) (kz BK120.out) (k43_mk _ (⟨(rdOf ByteArray.empty t102 0), (rdOf ByteArray.empty t102 1), t106, (⟨t109, t110, t111⟩ : S40), t115, t116, x121008_2⟩ : S43) (by exact (Kd.av_ HO_121008.out).2.1) (by first | exact (Kd.av_ HO_121008.out).2.2 | exact cz (Kd.av_ HO_121008.out).2.2)))); rintro e w64 ⟨rfl, hb⟩; replace HO_4 := Aside0.mk (Kd.aV_ (rz HO_4.out) hb); replace HO_121008 := Aside0.mk (Kd.aV_ (rz HO_121008.out) hb); replace BK101 := Aside0.mk (an_ (kz BK101.out) hb); replace BK113 := Aside0.mk (an_ (kz BK113.out) hb); replace BK120 := Aside0.mk (an_ (kz BK120.out) hb); replace HB := Aside0.mk (ac_ (by repeat (first | (with_reducible first | exact HB.out | apply bA_ | apply bN_ | apply bD_ | refine aa_ ?_ GE101.out | refine aa_ ?_ GE113.out | refine aa_ ?_ GE120.out))) hb); (try clear hb)))
       (try simp only [Act.put, lsa_, ls0_, ls1_])
       have H := HC62.out
       clear HC62
       by_cases c65 : t133 = true
       rotate_left
       ·replace c65 := Bool.eq_false_iff.mpr c65
        subst c65
        have H1 : (some ((⟨#[]⟩ : ByteArray), (⟨#[]⟩ : ByteArray), 0, (⟨#[]⟩ : ByteArray), 0, 0, 0, 0, ([] : List (S66)), false)) = some (r1, r2, r3, r4, r5, r6, r7, r8, r9, r10) := by rw [if_neg (show ¬ (false = true) by decide)] at H; exact H
        clear H
        have H := H1
        clear H1
        simp only [Option.some.injEq, Prod.mk.injEq] at H
        obtain ⟨rfl, rfl, rfl, rfl, rfl, rfl, rfl, rfl, rfl, rfl⟩ := H
        have hnb71 := NB101_113.out
        have hnc71 := NB113_101.out
        have hnb72 := NB101_120.out
        have hnc72 := NB120_101.out
        obtain ⟨hcz73_0, hcz73_1, hcz73_2, hcz73_3, hcz73_4, hcz73_5, hcz73_6, hcz73_7, hcz73_8⟩ := cz9_ BK101.out
        obtain ⟨hfz73_0, hfz73_1, hfz73_2, hfz73_3, hfz73_4, hfz73_5, hfz73_6, hfz73_7, hfz73_8⟩ := fz9_ BK101.out
        go_wp2
        refine bodyPost_ret (bB_ rfl _ _ gb101 43 #[.string (⟨#[]⟩ : ByteArray), .string (⟨#[]⟩ : ByteArray), .int .i64 0, .string (⟨#[]⟩ : ByteArray), .int .i64 0, .int .i64 0, .int .i64 0, .int .i64 0, .slice none 0 0] (0, 0) _ rfl (by exact kj9_8 (kj9_7 (kj9_6 (kj9_5 (kj9_4 (kj9_3 (kj9_2 (kj9_1 (kj9_0 (kz BK101.out)))))))))) Tryz.underlying43 rfl (by kernel_rfl)) rfl ?_
        exact ⟨_, by first | rfl | (simp [*, ai_, ah_] <;> rfl), by first | exact Kd.R_nil _ _ _ _ _ | exact Kd.N_nil _ _ _ _ _ | exact Kd.V_nil _ _ _ _ _ | exact Kd.Q_nil _ _ _ _ _ | exact Kd.S_nil _ _ _ _ _, by repeat (first | (with_reducible first | exact HB.out | apply bA_ | apply bN_ | apply bD_ | refine aa_ ?_ GE101.out | refine aa_ ?_ GE113.out | refine aa_ ?_ GE120.out))⟩
       subst c65
       have H1 : (some ((rdOf ByteArray.empty t102 0), (rdOf ByteArray.empty t102 1), t106, t109, t110, t111, t115, t116, x121008_2, true)) = some (r1, r2, r3, r4, r5, r6, r7, r8, r9, r10) := by rw [if_pos rfl] at H; exact H
       clear H
       have H := H1
       clear H1
       simp only [Option.some.injEq, Prod.mk.injEq] at H
       obtain ⟨rfl, rfl, rfl, rfl, rfl, rfl, rfl, rfl, rfl, rfl⟩ := H
       have hnb66 := NB120_101.out
       have hnc66 := NB101_120.out
       have hnb67 := NB120_113.out
       have hnc67 := NB113_120.out
       obtain ⟨hcz68_0, hcz68_1, hcz68_2, hcz68_3, hcz68_4, hcz68_5, hcz68_6, hcz68_7, hcz68_8⟩ := cz9_ BK120.out
       obtain ⟨hfz68_0, hfz68_1, hfz68_2, hfz68_3, hfz68_4, hfz68_5, hfz68_6, hfz68_7, hfz68_8⟩ := fz9_ BK120.out
       have hnb69 := NB101_113.out
       have hnc69 := NB113_101.out
       obtain ⟨hcz70_0, hcz70_1, hcz70_2, hcz70_3, hcz70_4, hcz70_5, hcz70_6, hcz70_7, hcz70_8⟩ := cz9_ BK101.out
       obtain ⟨hfz70_0, hfz70_1, hfz70_2, hfz70_3, hfz70_4, hfz70_5, hfz70_6, hfz70_7, hfz70_8⟩ := fz9_ BK101.out
       go_wp2
       refine bodyPost_ret (bB_ rfl _ _ gb101 43 #[.string (rdOf ByteArray.empty t102 0), .string (rdOf ByteArray.empty t102 1), .int .i64 t106, .string t109, .int .i64 t110, .int .i64 t111, .int .i64 t115, .int .i64 t116, .slice Ao63 x121008_2.length co63] (0, 0) _ rfl (by exact kj9_8 (kj9_7 (kj9_6 (kj9_5 (kj9_4 (kj9_3 (kj9_2 (kj9_1 (kj9_0 (kz BK101.out)))))))))) Tryz.underlying43 rfl (by kernel_rfl)) rfl ?_
       exact ⟨_, by first | rfl | (simp [*, ai_, ah_] <;> rfl), rz (Kd.bg_ (Kd.R_far (p := ⟨gb101, 8, none⟩) (Kd.R_far (p := ⟨gb101, 7, none⟩) (Kd.R_far (p := ⟨gb101, 6, none⟩) (Kd.R_far (p := ⟨gb101, 5, none⟩) (Kd.R_far (p := ⟨gb101, 4, none⟩) (Kd.R_far (p := ⟨gb101, 3, none⟩) (Kd.R_far (p := ⟨gb101, 2, none⟩) (Kd.R_far (p := ⟨gb101, 1, none⟩) (Kd.R_far (p := ⟨gb101, 0, none⟩) (Kd.bW_ HO_121008.out BK101.out (by decide)) (fun _ hk => hk.2) (.string (rdOf ByteArray.empty t102 0))) (fun _ hk => hk.2) (.string (rdOf ByteArray.empty t102 1))) (fun _ hk => hk.2) (.int .i64 t106)) (fun _ hk => hk.2) (.string t109)) (fun _ hk => hk.2) (.int .i64 t110)) (fun _ hk => hk.2) (.int .i64 t111)) (fun _ hk => hk.2) (.int .i64 t115)) (fun _ hk => hk.2) (.int .i64 t116)) (fun _ hk => hk.2) (.slice Ao63 x121008_2.length co63)) (fun _ hk => trivial)), by repeat (first | (with_reducible first | exact HB.out | apply bA_ | apply bN_ | apply bD_ | refine aa_ ?_ GE101.out | refine aa_ ?_ GE113.out | refine aa_ ?_ GE120.out))⟩
      rw [if_pos c36] at H
      have c36b0 : decide (x14_2 < (t102.length : Int)) = true := decide_eq_true c36
      clear c36
      by_cases c37 : 0 ≤ x14_2
      rotate_left
      ·rw [if_neg c37] at H
       exact absurd H (by simp)
      rw [if_pos c37] at H
      have c37b0 : decide (0 ≤ x14_2) = true := decide_eq_true c37
      clear c37
      replace H := Option.bind_eq_some_iff.mp H
      obtain ⟨⟨t122, t123⟩, A380, H⟩ := H
      (try dsimp only at H)
      have A38 := Aside0.mk A380
      clear A380
      by_cases c39 : t123 = true
      rotate_left
      ·replace c39 := Bool.eq_false_iff.mpr c39
       subst c39
       have H1 : (some ((⟨#[]⟩ : ByteArray), (⟨#[]⟩ : ByteArray), 0, (⟨#[]⟩ : ByteArray), 0, 0, 0, 0, ([] : List (S66)), false)) = some (r1, r2, r3, r4, r5, r6, r7, r8, r9, r10) := by rw [if_neg (show ¬ (false = true) by decide)] at H; exact H
       clear H
       have H := H1
       clear H1
       simp only [Option.some.injEq, Prod.mk.injEq] at H
       obtain ⟨rfl, rfl, rfl, rfl, rfl, rfl, rfl, rfl, rfl, rfl⟩ := H
       have p121 : 0 ≤ (x14_2 : Int) := of_decide_eq_true (by assumption)
       have q121 : x14_2 < (t102.length : Int) := of_decide_eq_true (by assumption)
       obtain ⟨ad121, e121, hx121_0⟩ := Kd.bf_ (Kd.av_ HO_4.out).2.2 x14_2 p121 q121
       obtain rfl : ad105 = ad121 := (by injection e121)
       replace p121 := eq_true p121
       replace q121 := eq_true q121
       go_wp2_with (first | ((with_reducible refine af_ (f := 30) rfl ?_); refine aJ_ (some 74) rfl rfl Tryz.func30 (by kernel_rfl) rfl #[.string (rdOf ByteArray.empty t102 x14_2)] rfl (by first | rfl | (simp only [lma_, lmc_, lmn_]; first | done | rfl)) ?_; (with_reducible refine (bn_.calls k2 (rdOf ByteArray.empty t102 x14_2) t122 false _ A38.out).mono ?_); rintro e w56 ⟨v124, rfl, ho0, hb⟩; refine ⟨_, rfl, ?_⟩; replace HO_4 := Aside0.mk (Kd.aV_ (rz HO_4.out) hb); replace HO_121008 := Aside0.mk (Kd.aV_ (rz HO_121008.out) hb); have HO125 := Aside0.mk (Kd.bz_ ho0 (ad_ (by repeat (first | (with_reducible first | exact HB.out | apply bA_ | apply bN_ | apply bD_ | refine aa_ ?_ GE101.out | refine aa_ ?_ GE113.out | refine aa_ ?_ GE120.out))))); replace BK101 := Aside0.mk (an_ (kz BK101.out) hb); replace BK113 := Aside0.mk (an_ (kz BK113.out) hb); replace BK120 := Aside0.mk (an_ (kz BK120.out) hb); replace HB := Aside0.mk (ac_ (by repeat (first | (with_reducible first | exact HB.out | apply bA_ | apply bN_ | apply bD_ | refine aa_ ?_ GE101.out | refine aa_ ?_ GE113.out | refine aa_ ?_ GE120.out))) hb); (try clear hb); (try clear ho0); have hnb57 := NB101_113.out; have hnc57 := NB113_101.out; have hnb58 := NB101_120.out; have hnc58 := NB120_101.out; obtain ⟨hcz59_0, hcz59_1, hcz59_2, hcz59_3, hcz59_4, hcz59_5, hcz59_6, hcz59_7, hcz59_8⟩ := cz9_ BK101.out; obtain ⟨hfz59_0, hfz59_1, hfz59_2, hfz59_3, hfz59_4, hfz59_5, hfz59_6, hfz59_7, hfz59_8⟩ := fz9_ BK101.out))
       refine bodyPost_ret (bB_ rfl _ _ gb101 43 #[.string (⟨#[]⟩ : ByteArray), .string (⟨#[]⟩ : ByteArray), .int .i64 0, .string (⟨#[]⟩ : ByteArray), .int .i64 0, .int .i64 0, .int .i64 0, .int .i64 0, .slice none 0 0] (0, 0) _ rfl (by exact kj9_8 (kj9_7 (kj9_6 (kj9_5 (kj9_4 (kj9_3 (kj9_2 (kj9_1 (kj9_0 (kz BK101.out)))))))))) Tryz.underlying43 rfl (by kernel_rfl)) rfl ?_
       exact ⟨_, by first | rfl | (simp [*, ai_, ah_] <;> rfl), by first | exact Kd.R_nil _ _ _ _ _ | exact Kd.N_nil _ _ _ _ _ | exact Kd.V_nil _ _ _ _ _ | exact Kd.Q_nil _ _ _ _ _ | exact Kd.S_nil _ _ _ _ _, by repeat (first | (with_reducible first | exact HB.out | apply bA_ | apply bN_ | apply bD_ | refine aa_ ?_ GE101.out | refine aa_ ?_ GE113.out | refine aa_ ?_ GE120.out))⟩
      subst c39
      have H1 : (if (t122.length : Int) = 4 then (if 0 < (t122.length : Int) then (if 1 < (t122.length : Int) then (if 2 < (t122.length : Int) then (if 3 < (t122.length : Int) then (if x121008_2.length < 4398046511104 then (ax_.l0 k2 t102 x13_16 (wrap64 (x14_2 + 1)) (rdOf ByteArray.empty t102 0) (rdOf ByteArray.empty t102 1) t106 t109 t110 t111 t115 t116 (x121008_2 ++ [(⟨rd t122 0, rd t122 1, rd t122 2, rd t122 3⟩ : S66)])) else (none)) else (none)) else (none)) else (none)) else (none)) else (some ((⟨#[]⟩ : ByteArray), (⟨#[]⟩ : ByteArray), 0, (⟨#[]⟩ : ByteArray), 0, 0, 0, 0, ([] : List (S66)), false))) = some (r1, r2, r3, r4, r5, r6, r7, r8, r9, r10) := by rw [if_pos rfl] at H; exact H
      clear H
      have H := H1
      clear H1
      have HC40 := Aside0.mk H
      clear H
      have p121 : 0 ≤ (x14_2 : Int) := of_decide_eq_true (by assumption)
      have q121 : x14_2 < (t102.length : Int) := of_decide_eq_true (by assumption)
      obtain ⟨ad121, e121, hx121_0⟩ := Kd.bf_ (Kd.av_ HO_4.out).2.2 x14_2 p121 q121
      obtain rfl : ad105 = ad121 := (by injection e121)
      replace p121 := eq_true p121
      replace q121 := eq_true q121
      go_upto_if 83 with (first | ((with_reducible refine af_ (f := 30) rfl ?_); refine aJ_ (some 74) rfl rfl Tryz.func30 (by kernel_rfl) rfl #[.string (rdOf ByteArray.empty t102 x14_2)] rfl (by first | rfl | (simp only [lma_, lmc_, lmn_]; first | done | rfl)) ?_; (with_reducible refine (bn_.calls k2 (rdOf ByteArray.empty t102 x14_2) t122 true _ A38.out).mono ?_); rintro e w41 ⟨v124, rfl, ho0, hb⟩; refine ⟨_, rfl, ?_⟩; replace HO_4 := Aside0.mk (Kd.aV_ (rz HO_4.out) hb); replace HO_121008 := Aside0.mk (Kd.aV_ (rz HO_121008.out) hb); have HO125 := Aside0.mk (Kd.bz_ ho0 (ad_ (by repeat (first | (with_reducible first | exact HB.out | apply bA_ | apply bN_ | apply bD_ | refine aa_ ?_ GE101.out | refine aa_ ?_ GE113.out | refine aa_ ?_ GE120.out))))); replace BK101 := Aside0.mk (an_ (kz BK101.out) hb); replace BK113 := Aside0.mk (an_ (kz BK113.out) hb); replace BK120 := Aside0.mk (an_ (kz BK120.out) hb); replace HB := Aside0.mk (ac_ (by repeat (first | (with_reducible first | exact HB.out | apply bA_ | apply bN_ | apply bD_ | refine aa_ ?_ GE101.out | refine aa_ ?_ GE113.out | refine aa_ ?_ GE120.out))) hb); (try clear hb); (try clear ho0); obtain ⟨Ao42, co42, eo42⟩ := Kd.bv_ HO125.out; subst eo42))
      (try simp only [Act.put, lsa_, ls0_, ls1_])
      have H := HC40.out
      clear HC40
      by_cases c43 : (t122.length : Int) = 4
      rotate_left
      ·rw [if_neg c43] at H
       have c43b0 : ((t122.length : Int) == 4) = false := beq_eq_false_iff_ne.mpr c43
       have c43b1 : ((t122.length : Int) != 4) = true := bne_iff_ne.mpr c43
       (first | rw [c43b0] | (simp only [i64_w, i32_w]; rw [c43b0]) | (simp only [c43b1, Bool.not_true, Bool.not_false]) | (simp only [c43b0, Bool.not_true, Bool.not_false]) | skip)
       simp only [Option.some.injEq, Prod.mk.injEq] at H
       obtain ⟨rfl, rfl, rfl, rfl, rfl, rfl, rfl, rfl, rfl, rfl⟩ := H
       have hnb53 := NB101_113.out
       have hnc53 := NB113_101.out
       have hnb54 := NB101_120.out
       have hnc54 := NB120_101.out
       obtain ⟨hcz55_0, hcz55_1, hcz55_2, hcz55_3, hcz55_4, hcz55_5, hcz55_6, hcz55_7, hcz55_8⟩ := cz9_ BK101.out
       obtain ⟨hfz55_0, hfz55_1, hfz55_2, hfz55_3, hfz55_4, hfz55_5, hfz55_6, hfz55_7, hfz55_8⟩ := fz9_ BK101.out
       go_wp2
       refine bodyPost_ret (bB_ rfl _ _ gb101 43 #[.string (⟨#[]⟩ : ByteArray), .string (⟨#[]⟩ : ByteArray), .int .i64 0, .string (⟨#[]⟩ : ByteArray), .int .i64 0, .int .i64 0, .int .i64 0, .int .i64 0, .slice none 0 0] (0, 0) _ rfl (by exact kj9_8 (kj9_7 (kj9_6 (kj9_5 (kj9_4 (kj9_3 (kj9_2 (kj9_1 (kj9_0 (kz BK101.out)))))))))) Tryz.underlying43 rfl (by kernel_rfl)) rfl ?_
       exact ⟨_, by first | rfl | (simp [*, ai_, ah_] <;> rfl), by first | exact Kd.R_nil _ _ _ _ _ | exact Kd.N_nil _ _ _ _ _ | exact Kd.V_nil _ _ _ _ _ | exact Kd.Q_nil _ _ _ _ _ | exact Kd.S_nil _ _ _ _ _, by repeat (first | (with_reducible first | exact HB.out | apply bA_ | apply bN_ | apply bD_ | refine aa_ ?_ GE101.out | refine aa_ ?_ GE113.out | refine aa_ ?_ GE120.out))⟩
      rw [if_pos c43] at H
      have c43b0 : ((t122.length : Int) == 4) = true := beq_iff_eq.mpr c43
      have c43b1 : ((t122.length : Int) != 4) = false := bne_eq_false_iff_eq.mpr c43
      clear c43
      (first | rw [c43b0] | (simp only [i64_w, i32_w]; rw [c43b0]) | (simp only [c43b1, Bool.not_true, Bool.not_false]) | (simp only [c43b0, Bool.not_true, Bool.not_false]) | skip)
      by_cases c44 : 0 < (t122.length : Int)
      rotate_left
      ·rw [if_neg c44] at H
       exact absurd H (by simp)
      rw [if_pos c44] at H
      have c44b0 : decide (0 < (t122.length : Int)) = true := decide_eq_true c44
      have c44b1 : decide (0 < t122.length) = true := decide_eq_true (by omega)
      clear c44
      by_cases c45 : 1 < (t122.length : Int)
      rotate_left
      ·rw [if_neg c45] at H
       exact absurd H (by simp)
      rw [if_pos c45] at H
      have c45b0 : decide (1 < (t122.length : Int)) = true := decide_eq_true c45
      have c45b1 : decide (1 < t122.length) = true := decide_eq_true (by omega)
      clear c45
      by_cases c46 : 2 < (t122.length : Int)
      rotate_left
      ·rw [if_neg c46] at H
       exact absurd H (by simp)
      rw [if_pos c46] at H
      have c46b0 : decide (2 < (t122.length : Int)) = true := decide_eq_true c46
      have c46b1 : decide (2 < t122.length) = true := decide_eq_true (by omega)
      clear c46
      by_cases c47 : 3 < (t122.length : Int)
      rotate_left
      ·rw [if_neg c47] at H
       exact absurd H (by simp)
      rw [if_pos c47] at H
      have c47b0 : decide (3 < (t122.length : Int)) = true := decide_eq_true c47
      have c47b1 : decide (3 < t122.length) = true := decide_eq_true (by omega)
      clear c47
      by_cases c48 : x121008_2.length < 4398046511104
      rotate_left
      ·rw [if_neg c48] at H
       exact absurd H (by simp)
      rw [if_pos c48] at H
      have LMc48 := Aside0.mk c48
      clear c48
      obtain ⟨y130, hy130⟩ : ∃ y_ : List (S66), y_ = (x121008_2 ++ [(⟨rd t122 0, rd t122 1, rd t122 2, rd t122 3⟩ : S66)]) := ⟨_, rfl⟩
      replace H : (ax_.l0 k2 t102 x13_16 (wrap64 (x14_2 + 1)) (rdOf ByteArray.empty t102 0) (rdOf ByteArray.empty t102 1) t106 t109 t110 t111 t115 t116 y130) = some (r1, r2, r3, r4, r5, r6, r7, r8, r9, r10) := by first | (rw [hy130]; with_reducible exact H) | (have H2_ := (Option.bind_some _ _).symm.trans H; rw [hy130]; with_reducible exact H2_) | (have H2_ := (Option.bind_some _ _).symm.trans H; with_reducible exact H2_) | with_reducible exact H | (rw [hy130]; exact H) | exact H
      have Ny130 := Aside0.mk hy130
      clear hy130
      have H' := Aside0.mk H
      clear H
      try go_wp2
      (try (rw [bm_ w41]; generalize hq_ : World.drewN w41 _ = w41; replace HO125 := Aside0.mk (rqR hq_ HO125.out); replace HO_121008 := Aside0.mk (rqR hq_ HO_121008.out); replace HO_4 := Aside0.mk (rqR hq_ HO_4.out); replace BK101 := Aside0.mk (rqB hq_ BK101.out); replace BK113 := Aside0.mk (rqB hq_ BK113.out); replace BK120 := Aside0.mk (rqB hq_ BK120.out); replace HB := Aside0.mk (rqH hq_ HB.out); clear hq_))
      have n0_ := Aside0.mk (Kd.R_drew HO_4.out)
      have n1_ := Aside0.mk (Kd.R_drew HO_121008.out)
      have n2_ := Aside0.mk (Kd.R_drew HO125.out)
      have n3_ := Aside0.mk (bH_ BK101.out)
      have n4_ := Aside0.mk (bH_ BK113.out)
      have n5_ := Aside0.mk (bH_ BK120.out)
      have n6_ := Aside0.mk (bD_ HB.out)
      clear HO_4
      clear HO_121008
      clear HO125
      clear BK101
      clear BK113
      clear BK120
      clear HB
      have HO_4 := n0_
      have HO_121008 := n1_
      have HO125 := n2_
      have BK101 := n3_
      have BK113 := n4_
      have BK120 := n5_
      have HB := n6_
      clear n0_ n1_ n2_ n3_ n4_ n5_ n6_
      have p126 : 0 ≤ (0 : Int) := (by omega)
      have q126 : 0 < (t122.length : Int) := of_decide_eq_true (by assumption)
      obtain ⟨ad126, e126, hx126_0⟩ := Kd.at_int (Kd.av_ HO125.out).2.2 0 p126 q126
      cases e126
      have qi126 : (0 < t122.length) = True := eq_true (by omega)
      (try rw [show ((0 : Int)).toNat = 0 from rfl] at hx126_0)
      (try rw [Addr.add_zero'] at hx126_0)
      replace p126 := eq_true p126
      replace q126 := eq_true q126
      have p127 : 0 ≤ (1 : Int) := (by omega)
      have q127 : 1 < (t122.length : Int) := of_decide_eq_true (by assumption)
      obtain ⟨ad127, e127, hx127_0⟩ := Kd.at_int (Kd.av_ HO125.out).2.2 1 p127 q127
      obtain rfl : ad126 = ad127 := (by injection e127)
      (try simp only [show (1 : Int).toNat = 1 from rfl, Nat.reduceMul, Nat.reduceEqDiff, Go.Addr.add, ↓reduceIte] at hx127_0)
      have qi127 : (1 < t122.length) = True := eq_true (by omega)
      (try rw [show ((1 : Int)).toNat = 1 from rfl] at hx127_0)
      replace p127 := eq_true p127
      replace q127 := eq_true q127
      have p128 : 0 ≤ (2 : Int) := (by omega)
      have q128 : 2 < (t122.length : Int) := of_decide_eq_true (by assumption)
      obtain ⟨ad128, e128, hx128_0⟩ := Kd.at_int (Kd.av_ HO125.out).2.2 2 p128 q128
      obtain rfl : ad126 = ad128 := (by injection e128)
      (try simp only [show (2 : Int).toNat = 2 from rfl, Nat.reduceMul, Nat.reduceEqDiff, Go.Addr.add, ↓reduceIte] at hx128_0)
      have qi128 : (2 < t122.length) = True := eq_true (by omega)
      (try rw [show ((2 : Int)).toNat = 2 from rfl] at hx128_0)
      replace p128 := eq_true p128
      replace q128 := eq_true q128
      have p129 : 0 ≤ (3 : Int) := (by omega)
      have q129 : 3 < (t122.length : Int) := of_decide_eq_true (by assumption)
      obtain ⟨ad129, e129, hx129_0⟩ := Kd.at_int (Kd.av_ HO125.out).2.2 3 p129 q129
      obtain rfl : ad126 = ad129 := (by injection e129)
      (try simp only [show (3 : Int).toNat = 3 from rfl, Nat.reduceMul, Nat.reduceEqDiff, Go.Addr.add, ↓reduceIte] at hx129_0)
      have qi129 : (3 < t122.length) = True := eq_true (by omega)
      (try rw [show ((3 : Int)).toNat = 3 from rfl] at hx129_0)
      replace p129 := eq_true p129
      replace q129 := eq_true q129
      refine start_ (n := 19) (S := fun w' => w'.cell? ⟨gb120, 0, none⟩ = some (.string (rdOf ByteArray.empty t102 0)) ∧ w'.cell? ⟨gb120, 1, none⟩ = some (.string (rdOf ByteArray.empty t102 1)) ∧ w'.cell? ⟨gb120, 2, none⟩ = some (.int .i64 t106) ∧ w'.cell? ⟨gb120, 3, none⟩ = some (.string t109) ∧ w'.cell? ⟨gb120, 4, none⟩ = some (.int .i64 t110) ∧ w'.cell? ⟨gb120, 5, none⟩ = some (.int .i64 t111) ∧ w'.cell? ⟨gb120, 6, none⟩ = some (.int .i64 t115) ∧ w'.cell? ⟨gb120, 7, none⟩ = some (.int .i64 t116) ∧ w'.cell? ⟨gb120, 8, none⟩ = some (u121008) ∧ w'.cell? ad126 = some (.int .i64 (rd t122 0)) ∧ w'.cell? ⟨ad126.block, ad126.off + 1, none⟩ = some (.int .i64 (rd t122 1)) ∧ w'.cell? ⟨ad126.block, ad126.off + 2, none⟩ = some (.int .i64 (rd t122 2)) ∧ w'.cell? ⟨ad126.block, ad126.off + 3, none⟩ = some (.int .i64 (rd t122 3))) (ds := [16, 18]) #[f_,f_,f_,f_,f_,f_,f_,f_,f_,f_,f_,f_,f_,f_,f_,f_,f_,f_,f_] (by kernel_rfl) rfl rfl ⟨(am_ BK120.out 0).trans rfl, (am_ BK120.out 1).trans rfl, (am_ BK120.out 2).trans rfl, (am_ BK120.out 3).trans rfl, (am_ BK120.out 4).trans rfl, (am_ BK120.out 5).trans rfl, (am_ BK120.out 6).trans rfl, (am_ BK120.out 7).trans rfl, (am_ BK120.out 8).trans rfl, hx126_0, hx127_0, hx128_0, hx129_0⟩ (fun hHeld => ?_); refine cl_ ax_.tab15 ax_.bits15 (fun HT_ HW_ => ?_)
      generalize w41.drew = w49 at HO_4 HO_121008 HO125 BK101 BK113 BK120 HB hx126_0 hx127_0 hx128_0 hx129_0 hHeld ⊢
      refine pure_ (i := 0) (N := some 85) (v := ?_) (a' := ?_) #[t_,f_,f_,f_,f_,f_,f_,f_,f_,f_,f_,f_,f_,f_,f_,f_,f_,f_,f_] rfl rfl (aH_ HT_.out (by kernel_rfl)) (fun _ _ _ h => h) (Or.inl ⟨by rfl, ?_⟩) ?_ ?_
      rotate_left
      ·intro w'
       go_simp
       with_reducible rfl
      rotate_left
      ·simp only [Act.put, lsa_, ls0_, ls1_, i64_w, i32_w]
       rfl
      refine pure_ (i := 2) (N := some 87) (v := ?_) (a' := ?_) #[t_,f_,t_,f_,f_,f_,f_,f_,f_,f_,f_,f_,f_,f_,f_,f_,f_,f_,f_] rfl rfl (aH_ HT_.out (by kernel_rfl)) (fun _ _ _ h => h) (Or.inl ⟨by rfl, ?_⟩) ?_ ?_
      rotate_left
      ·intro w'
       go_simp
       with_reducible rfl
      rotate_left
      ·simp only [Act.put, lsa_, ls0_, ls1_, i64_w, i32_w]
       rfl
      refine pure_ (i := 3) (N := some 88) (v := ?_) (a' := ?_) #[t_,f_,t_,t_,f_,f_,f_,f_,f_,f_,f_,f_,f_,f_,f_,f_,f_,f_,f_] rfl rfl (aH_ HT_.out (by kernel_rfl)) (fun _ _ _ h => h) (Or.inl ⟨by rfl, ?_⟩) ?_ ?_
      rotate_left
      ·intro w'
       go_simp
       with_reducible rfl
      rotate_left
      ·simp only [Act.put, lsa_, ls0_, ls1_, i64_w, i32_w]
       rfl
      refine pure_ (i := 5) (N := some 90) (v := ?_) (a' := ?_) #[t_,f_,t_,t_,f_,t_,f_,f_,f_,f_,f_,f_,f_,f_,f_,f_,f_,f_,f_] rfl rfl (aH_ HT_.out (by kernel_rfl)) (fun _ _ _ h => h) (Or.inl ⟨by rfl, ?_⟩) ?_ ?_
      rotate_left
      ·intro w'
       go_simp
       with_reducible rfl
      rotate_left
      ·simp only [Act.put, lsa_, ls0_, ls1_, i64_w, i32_w]
       rfl
      refine pure_ (i := 6) (N := some 91) (v := ?_) (a' := ?_) #[t_,f_,t_,t_,f_,t_,t_,f_,f_,f_,f_,f_,f_,f_,f_,f_,f_,f_,f_] rfl rfl (aH_ HT_.out (by kernel_rfl)) (fun _ _ _ h => h) (Or.inl ⟨by rfl, ?_⟩) ?_ ?_
      rotate_left
      ·intro w'
       go_simp
       with_reducible rfl
      rotate_left
      ·simp only [Act.put, lsa_, ls0_, ls1_, i64_w, i32_w]
       rfl
      refine pure_ (i := 8) (N := some 93) (v := ?_) (a' := ?_) #[t_,f_,t_,t_,f_,t_,t_,f_,t_,f_,f_,f_,f_,f_,f_,f_,f_,f_,f_] rfl rfl (aH_ HT_.out (by kernel_rfl)) (fun _ _ _ h => h) (Or.inl ⟨by rfl, ?_⟩) ?_ ?_
      rotate_left
      ·intro w'
       go_simp
       with_reducible rfl
      rotate_left
      ·simp only [Act.put, lsa_, ls0_, ls1_, i64_w, i32_w]
       rfl
      refine pure_ (i := 9) (N := some 94) (v := ?_) (a' := ?_) #[t_,f_,t_,t_,f_,t_,t_,f_,t_,t_,f_,f_,f_,f_,f_,f_,f_,f_,f_] rfl rfl (aH_ HT_.out (by kernel_rfl)) (fun _ _ _ h => h) (Or.inl ⟨by rfl, ?_⟩) ?_ ?_
      rotate_left
      ·intro w'
       go_simp
       with_reducible rfl
      rotate_left
      ·simp only [Act.put, lsa_, ls0_, ls1_, i64_w, i32_w]
       rfl
      refine pure_ (i := 11) (N := some 96) (v := ?_) (a' := ?_) #[t_,f_,t_,t_,f_,t_,t_,f_,t_,t_,f_,t_,f_,f_,f_,f_,f_,f_,f_] rfl rfl (aH_ HT_.out (by kernel_rfl)) (fun _ _ _ h => h) (Or.inl ⟨by rfl, ?_⟩) ?_ ?_
      rotate_left
      ·intro w'
       go_simp
       with_reducible rfl
      rotate_left
      ·simp only [Act.put, lsa_, ls0_, ls1_, i64_w, i32_w]
       rfl
      refine pure_ (i := 12) (N := some 97) (v := ?_) (a' := ?_) #[t_,f_,t_,t_,f_,t_,t_,f_,t_,t_,f_,t_,t_,f_,f_,f_,f_,f_,f_] rfl rfl (aH_ HT_.out (by kernel_rfl)) (fun _ _ _ h => h) (Or.inl ⟨by rfl, ?_⟩) ?_ ?_
      rotate_left
      ·intro w'
       go_simp
       with_reducible rfl
      rotate_left
      ·simp only [Act.put, lsa_, ls0_, ls1_, i64_w, i32_w]
       rfl
      refine take_ (i := 1) (N := some 86) (v := ?_) (a' := ?_) #[t_,t_,t_,t_,f_,t_,t_,f_,t_,t_,f_,t_,t_,f_,f_,f_,f_,f_,f_] rfl rfl (bt_ HT_.out HW_.out (by kernel_rfl)) (fun _ _ _ h => h) (Or.inl ⟨by rfl, ?_⟩) hHeld ?_ ?_
      rotate_left
      ·rintro w' ⟨s0, s1, s2, s3, s4, s5, s6, s7, s8, s9, s10, s11, s12⟩
       go_simp
       with_reducible rfl
      rotate_left
      ·simp only [Act.put, lsa_, ls0_, ls1_, i64_w, i32_w]
       rfl
      refine take_ (i := 4) (N := some 89) (v := ?_) (a' := ?_) #[t_,t_,t_,t_,t_,t_,t_,f_,t_,t_,f_,t_,t_,f_,f_,f_,f_,f_,f_] rfl rfl (bt_ HT_.out HW_.out (by kernel_rfl)) (fun _ _ _ h => h) (Or.inl ⟨by rfl, ?_⟩) hHeld ?_ ?_
      rotate_left
      ·rintro w' ⟨s0, s1, s2, s3, s4, s5, s6, s7, s8, s9, s10, s11, s12⟩
       go_simp
       with_reducible rfl
      rotate_left
      ·simp only [Act.put, lsa_, ls0_, ls1_, i64_w, i32_w]
       rfl
      refine take_ (i := 7) (N := some 92) (v := ?_) (a' := ?_) #[t_,t_,t_,t_,t_,t_,t_,t_,t_,t_,f_,t_,t_,f_,f_,f_,f_,f_,f_] rfl rfl (bt_ HT_.out HW_.out (by kernel_rfl)) (fun _ _ _ h => h) (Or.inl ⟨by rfl, ?_⟩) hHeld ?_ ?_
      rotate_left
      ·rintro w' ⟨s0, s1, s2, s3, s4, s5, s6, s7, s8, s9, s10, s11, s12⟩
       go_simp
       with_reducible rfl
      rotate_left
      ·simp only [Act.put, lsa_, ls0_, ls1_, i64_w, i32_w]
       rfl
      refine take_ (i := 10) (N := some 95) (v := ?_) (a' := ?_) #[t_,t_,t_,t_,t_,t_,t_,t_,t_,t_,t_,t_,t_,f_,f_,f_,f_,f_,f_] rfl rfl (bt_ HT_.out HW_.out (by kernel_rfl)) (fun _ _ _ h => h) (Or.inl ⟨by rfl, ?_⟩) hHeld ?_ ?_
      rotate_left
      ·rintro w' ⟨s0, s1, s2, s3, s4, s5, s6, s7, s8, s9, s10, s11, s12⟩
       go_simp
       with_reducible rfl
      rotate_left
      ·simp only [Act.put, lsa_, ls0_, ls1_, i64_w, i32_w]
       rfl
      refine take_ (i := 13) (N := some 98) (v := ?_) (a' := ?_) #[t_,t_,t_,t_,t_,t_,t_,t_,t_,t_,t_,t_,t_,t_,f_,f_,f_,f_,f_] rfl rfl (bt_ HT_.out HW_.out (by kernel_rfl)) (fun _ _ _ h => h) (Or.inl ⟨by rfl, ?_⟩) hHeld ?_ ?_
      rotate_left
      ·rintro w' ⟨s0, s1, s2, s3, s4, s5, s6, s7, s8, s9, s10, s11, s12⟩
       go_simp
       with_reducible rfl
      rotate_left
      ·simp only [Act.put, lsa_, ls0_, ls1_, i64_w, i32_w]
       rfl
      refine pure_ (i := 14) (N := some 99) (v := ?_) (a' := ?_) #[t_,t_,t_,t_,t_,t_,t_,t_,t_,t_,t_,t_,t_,t_,t_,f_,f_,f_,f_] rfl rfl (aH_ HT_.out (by kernel_rfl)) (fun _ _ _ h => h) (Or.inl ⟨by rfl, ?_⟩) ?_ ?_
      rotate_left
      ·intro w'
       go_simp
       with_reducible rfl
      rotate_left
      ·simp only [Act.put, lsa_, ls0_, ls1_, i64_w, i32_w]
       rfl
      refine one_ (i := 15) (N := some 100) #[t_,t_,t_,t_,t_,t_,t_,t_,t_,t_,t_,t_,t_,t_,t_,t_,f_,f_,f_] rfl rfl (ct_ HT_.out (by kernel_rfl)) (by decide) (fun K hK => ?_)
      refine value_ (w1 := ?_) (v := ?_) (by rfl) rfl ?_ ?_
      rotate_left 2
      ·go_simp
       constructor
       ·rfl
       ·rfl
      refine hK.out _ _ ⟨(am_ (bE_ BK120.out _) 0).trans rfl, (am_ (bE_ BK120.out _) 1).trans rfl, (am_ (bE_ BK120.out _) 2).trans rfl, (am_ (bE_ BK120.out _) 3).trans rfl, (am_ (bE_ BK120.out _) 4).trans rfl, (am_ (bE_ BK120.out _) 5).trans rfl, (am_ (bE_ BK120.out _) 6).trans rfl, (am_ (bE_ BK120.out _) 7).trans rfl, (am_ (bE_ BK120.out _) 8).trans rfl, (World.cell?_alloc_lt _ _ _ (bl_ _ _ (hHeld.2.2.2.2.2.2.2.2.2.1))).trans (hHeld.2.2.2.2.2.2.2.2.2.1), (World.cell?_alloc_lt _ _ _ (bl_ _ _ (hHeld.2.2.2.2.2.2.2.2.2.2.1))).trans (hHeld.2.2.2.2.2.2.2.2.2.2.1), (World.cell?_alloc_lt _ _ _ (bl_ _ _ (hHeld.2.2.2.2.2.2.2.2.2.2.2.1))).trans (hHeld.2.2.2.2.2.2.2.2.2.2.2.1), (World.cell?_alloc_lt _ _ _ (bl_ _ _ (hHeld.2.2.2.2.2.2.2.2.2.2.2.2))).trans (hHeld.2.2.2.2.2.2.2.2.2.2.2.2)⟩ (fun hHeld => ?_)
      clear hK K
      refine norm_ (a' := ?_) ?_ ?_
      rotate_left
      ·show Act.put _ (some 100) _ = _
       simp only [Act.put, lsa_, ls0_, ls1_, i64_w, i32_w]
       rfl
      refine last_ (i := 16) (N := some 101) #[t_,t_,t_,t_,t_,t_,t_,t_,t_,t_,t_,t_,t_,t_,t_,t_,t_,f_,f_] rfl rfl (ct_ HT_.out (by kernel_rfl)) (by decide) (fun K hK => ?_)
      refine Kd.R_append_step k66 (w0 := w) w.heap.size (by rfl) (.tmp 86) (.tmp 100) 41 66 (.agg #[(.int .i64 0), (.int .i64 0), (.int .i64 0), (.int .i64 0)]) 32 rfl Tryz.underlying41 info66 rfl (by decide) (by omega) u121008 x121008_2 (⟨rd t122 0, rd t122 1, rd t122 2, rd t122 3⟩ : S66) [.int .i64 (rd t122 0), .int .i64 (rd t122 1), .int .i64 (rd t122 2), .int .i64 (rd t122 3)] (fun _ => True) (fun _ => False) rfl rfl ?aP (fun _ hk => hk.elim) ?aF ?aO ?aB ?aS ?aL ?_
      (case aP => exact k66_mkM _ _ _ (⟨rd t122 0, rd t122 1, rd t122 2, rd t122 3⟩ : S66))
      (case aB => exact (by repeat (first | (with_reducible first | exact HB.out | apply bA_ | apply bN_ | apply bD_ | refine aa_ ?_ GE101.out | refine aa_ ?_ GE113.out | refine aa_ ?_ GE120.out))))
      (case aF => exact (fun _ _ => trivial))
      (case aO => exact (rz HO_121008.out))
      (case aS => exact (ad_ (by repeat (first | (with_reducible first | exact HB.out | apply bA_ | apply bN_ | apply bD_ | refine aa_ ?_ GE101.out | refine aa_ ?_ GE113.out | refine aa_ ?_ GE120.out)))))
      (case aL => have := LMc48.out; omega)
      intro v131 w50 ho hb hg hat
      rw [← Ny130.out] at ho
      have n0_ := Aside0.mk (Kd.R_over' (rz HO_4.out) (Kd.R_typed (rz HO_121008.out)) (by decide) hg)
      have n1_ := Aside0.mk (co_ (g := gb101) (o := .cells #[.string x102000_2, .string x102001_2, .int .i64 x102002_2, .string x102003_2, .int .i64 x102004_2, .int .i64 x102005_2, .int .i64 x102006_2, .int .i64 x102007_2, .slice none 0 0] 43 (0, 0)) (kz BK101.out) hg (Kd.R_ne HO_121008.out BK101.out (by decide)))
      have n2_ := Aside0.mk (co_ (g := gb113) (o := .cells #[.string t109, .int .i64 t110, .int .i64 t111] 40 (0, 0)) (kz BK113.out) hg (Kd.R_ne HO_121008.out BK113.out (by decide)))
      have n3_ := Aside0.mk (co_ (g := gb120) (o := .cells #[.string (rdOf ByteArray.empty t102 0), .string (rdOf ByteArray.empty t102 1), .int .i64 t106, .string t109, .int .i64 t110, .int .i64 t111, .int .i64 t115, .int .i64 t116, u121008] 43 (0, 0)) (kz BK120.out) hg (Kd.R_ne HO_121008.out BK120.out (by decide)))
      have n4_ := Aside0.mk (Kd.R_over' (rz HO125.out) (Kd.R_typed (rz HO_121008.out)) (by decide) hg)
      have n5_ := Aside0.mk (hb)
      have n6_ := Aside0.mk (ho)
      clear HO_4
      clear BK101
      clear BK113
      clear BK120
      clear HO125
      clear HB
      clear HO_121008
      have HO_4 := n0_
      have BK101 := n1_
      have BK113 := n2_
      have BK120 := n3_
      have HO125 := n4_
      have HB := n5_
      have HO132 := n6_
      clear n0_ n1_ n2_ n3_ n4_ n5_ n6_
      clear ho hb hg hat
      obtain ⟨Ao51, co51, eo51⟩ := Kd.bv_ HO132.out
      (first | subst eo51 | (injection eo51 with f1_ f2_ f3_; have f4_ := f1_.symm; have f5_ := f3_.symm; clear f1_ f2_ f3_; subst f4_; subst f5_))
      refine hK.out _ _ ?_
      clear hK K
      refine norm_ (a' := ?_) ?_ ?_
      rotate_left
      ·show Act.put _ (some 101) _ = _
       simp only [Act.put, lsa_, ls0_, ls1_, i64_w, i32_w]
       rfl
      refine pure_ (i := 17) (N := some 102) (v := ?_) (a' := ?_) #[t_,t_,t_,t_,t_,t_,t_,t_,t_,t_,t_,t_,t_,t_,t_,t_,t_,t_,f_] rfl rfl (aH_ HT_.out (by kernel_rfl)) (fun _ _ _ h => h) (Or.inl ⟨by rfl, ?_⟩) ?_ ?_
      rotate_left
      ·intro w'
       go_simp
       with_reducible rfl
      rotate_left
      ·simp only [Act.put, lsa_, ls0_, ls1_, i64_w, i32_w]
       rfl
      refine last_ (i := 18) (N := none) #[t_,t_,t_,t_,t_,t_,t_,t_,t_,t_,t_,t_,t_,t_,t_,t_,t_,t_,t_] rfl rfl (ct_ HT_.out (by kernel_rfl)) (by decide) (fun K hK => ?_)
      have hs52 : w50.cell? ⟨gb120, 8, none⟩ = some (u121008) := (am_ BK120.out 8).trans rfl
      have hfs52 := aY_ BK120.out 8
      have hns52_0 := NB101_120.out
      have hns52_1 := NB113_120.out
      have hms52_0 := NB120_101.out
      have hms52_1 := NB120_113.out
      refine skip_ (w1 := ?_) (by rfl) rfl ?_ ?_
      rotate_left
      ·go_simp
       rfl
      refine hK.out _ _ ?_
      clear hK K
      refine done_ (cN_ HT_.out (by kernel_rfl)) ?_
      try go_wp2
      go_roundg k2
      case measure => have := HJ16.out; have := HK2.out; omega
      case rel => exact ⟨(wrap64 (x14_2 + 1)), (x102000_2), (x102001_2), (x102002_2), (x102003_2), (x102004_2), (x102005_2), (x102006_2), (x102007_2), (y130), (.slice Ao51 y130.length co51), (by first | rfl | (simp; done) | (simp [*]; done)), H', ⟨by have := HJ16.out; have := HK2.out; omega⟩, ⟨rz (Kd.bg_ (Kd.R_far (p := ⟨gb120, 8, none⟩) (Kd.bW_ HO_4.out BK120.out (by decide)) (fun _ hk => hk.2) (.slice Ao51 y130.length co51)) (fun _ hk => trivial))⟩, ⟨rz (Kd.bg_ (Kd.R_far (p := ⟨gb120, 8, none⟩) (Kd.bW_ HO132.out BK120.out (by decide)) (fun _ hk => hk.2) (.slice Ao51 y130.length co51)) (fun _ hk => trivial))⟩, ⟨by exact kf (kz BK101.out) NB101_120.out⟩, ⟨by exact kf (kz BK113.out) NB113_120.out⟩, ⟨by exact kj9_8 (kz BK120.out)⟩, ⟨by repeat (first | (with_reducible first | exact HB.out | apply bA_ | apply bN_ | apply bD_ | refine aa_ ?_ GE101.out | refine aa_ ?_ GE113.out | refine aa_ ?_ GE120.out))⟩⟩
 rw [if_pos c7] at H
 have c7b0 : decide ((t102.length : Int) < 5) = true := decide_eq_true c7
 have c7b1 : decide (t102.length < 5) = true := decide_eq_true (by omega)
 clear c7
 (first | rw [c7b0] | (simp only [i64_w, i32_w]; rw [c7b0]) | (simp only [c7b1, Bool.not_true, Bool.not_false]) | (simp only [c7b0, Bool.not_true, Bool.not_false]) | skip)
 simp only [Option.some.injEq, Prod.mk.injEq] at H
 obtain ⟨rfl, rfl, rfl, rfl, rfl, rfl, rfl, rfl, rfl, rfl⟩ := H
 obtain ⟨hcz8_0, hcz8_1, hcz8_2, hcz8_3, hcz8_4, hcz8_5, hcz8_6, hcz8_7, hcz8_8⟩ := cz9_ BK101.out
 obtain ⟨hfz8_0, hfz8_1, hfz8_2, hfz8_3, hfz8_4, hfz8_5, hfz8_6, hfz8_7, hfz8_8⟩ := fz9_ BK101.out
 go_wp2
 refine bodyPost_ret (bB_ rfl _ _ gb101 43 #[.string (⟨#[]⟩ : ByteArray), .string (⟨#[]⟩ : ByteArray), .int .i64 0, .string (⟨#[]⟩ : ByteArray), .int .i64 0, .int .i64 0, .int .i64 0, .int .i64 0, .slice none 0 0] (0, 0) _ rfl (by exact kj9_8 (kj9_7 (kj9_6 (kj9_5 (kj9_4 (kj9_3 (kj9_2 (kj9_1 (kj9_0 (kz BK101.out)))))))))) Tryz.underlying43 rfl (by kernel_rfl)) rfl ?_
 exact ⟨_, by first | rfl | (simp [*, ai_, ah_] <;> rfl), by first | exact Kd.R_nil _ _ _ _ _ | exact Kd.N_nil _ _ _ _ _ | exact Kd.V_nil _ _ _ _ _ | exact Kd.Q_nil _ _ _ _ _ | exact Kd.S_nil _ _ _ _ _, by repeat (first | (with_reducible first | exact HB.out | apply bA_ | apply bN_ | apply bD_ | refine aa_ ?_ GE101.out))⟩
def aF_.l0 : Nat → List (S38) → List (S43) → Int → Option ((List (S43)) × Int)
 | 0, _, _, _ => none
 | k + 1, x0, x4, x5 => if x5 < (x0.length : Int) then (if 0 ≤ x5 then (if ((ag_ x0 x5).f0).toList = ([108, 101, 97, 102] : List UInt8) then ((ax_.f k ((ag_ x0 x5).f2)).bind fun bt107 => (if bt107.2.2.2.2.2.2.2.2.2 = true then (if bt107.1.toList = ((ag_ x0 x5).f1).toList then (if x4.length < 1256584717458 then (aF_.l0 k x0 (x4 ++ [(⟨bt107.1, bt107.2.1, bt107.2.2.1, (⟨bt107.2.2.2.1, bt107.2.2.2.2.1, bt107.2.2.2.2.2.1⟩ : S40), bt107.2.2.2.2.2.2.1, bt107.2.2.2.2.2.2.2.1, bt107.2.2.2.2.2.2.2.2.1⟩ : S43)]) (wrap64 (x5 + 1))) else (none)) else (some (([] : List (S43)), 6))) else (some (([] : List (S43)), 9)))) else (aF_.l0 k x0 x4 (wrap64 (x5 + 1)))) else (none)) else (if (x4.length : Int) > 16 then (some (([] : List (S43)), 5)) else (some (x4, 0)))
def aF_.f (k : Nat) (l0 : List (S38)) : Option ((List (S43)) × Int) := (bs_.f k l0).bind fun t101 => (if t101 = true then (aF_.l0 k l0 (([] : List (S43))) 0) else (some (([] : List (S43)), 1)))
set_option maxHeartbeats 8000000 in
set_option maxRecDepth 100000 in
theorem aF_.calls (k : Nat) (A0 : Option Addr) (c0 : Nat) (l0 : List (S38)) (r1 : List (S43)) (r2 : Int) (w : World) (hr0 : Kd.C k38 w A0 l0.length l0) (hc0 : l0.length ≤ c0) (h : aF_.f k l0 = some (r1, r2)) :
  Calls Tryz.prog 5 #[.slice A0 l0.length c0] w fun e w' => ∃ v0_ : Value, e = .returned (.tuple #[v0_, .int .i64 r2]) ∧ Kd.S k43 43 w' w.heap.size (fun _ => True) v0_ r1 ∧ Below w.heap.size w w' := by
 have hu43 := Tryz.underlying43
 have HR0 := Aside0.mk hr0
 have HC0 := Aside0.mk hc0
 clear hr0 hc0
 have HB := Aside0.mk (Below.refl w.heap.size w)
 have H : ((bs_.f k l0).bind fun t101 => (if t101 = true then (aF_.l0 k l0 (([] : List (S43))) 0) else (some (([] : List (S43)), 1)))) = some (r1, r2) := h
 clear h
 replace H := Option.bind_eq_some_iff.mp H
 obtain ⟨t101, A20, H⟩ := H
 (try dsimp only at H)
 have A2 := Aside0.mk A20
 clear A20
 have HC3 := Aside0.mk H
 clear H
 go_enter Tryz.func5, Tryz.ntmps5
 go_upto_if 10 with (first | (go_at_call 14; (with_reducible refine (bs_.calls k _ _ l0 t101 _ ?side1 ?side2 A2.out).mono ?_); (case side1 => exact cz HR0.out); (case side2 => exact HC0.out); rintro e w' ⟨rfl, ⟨nd, rfl⟩⟩; (try first | exact ⟨rfl, _, World.drewN_drewN _ _ _⟩ | exact ⟨rfl, _, Eq.trans (World.drewN_drewN _ _ _) (congrArg (World.drewN _) (Nat.add_assoc _ _ _))⟩)))
 repeat (go_quiet (first | (go_at_call 14; (with_reducible refine (bs_.calls k _ _ l0 t101 _ ?side1 ?side2 A2.out).mono ?_); (case side1 => exact cz HR0.out); (case side2 => exact HC0.out); rintro e w' ⟨rfl, ⟨nd, rfl⟩⟩; (try first | exact ⟨rfl, _, World.drewN_drewN _ _ _⟩ | exact ⟨rfl, _, Eq.trans (World.drewN_drewN _ _ _) (congrArg (World.drewN _) (Nat.add_assoc _ _ _))⟩))); go_upto_if 10 with (first | (go_at_call 14; (with_reducible refine (bs_.calls k _ _ l0 t101 _ ?side1 ?side2 A2.out).mono ?_); (case side1 => exact cz HR0.out); (case side2 => exact HC0.out); rintro e w' ⟨rfl, ⟨nd, rfl⟩⟩; (try first | exact ⟨rfl, _, World.drewN_drewN _ _ _⟩ | exact ⟨rfl, _, Eq.trans (World.drewN_drewN _ _ _) (congrArg (World.drewN _) (Nat.add_assoc _ _ _))⟩))))
 (try simp only [Act.put, lsa_, ls0_, ls1_])
 have H := HC3.out
 clear HC3
 by_cases c4 : t101 = true
 rotate_left
 ·replace c4 := Bool.eq_false_iff.mpr c4
  subst c4
  have H1 : (some (([] : List (S43)), 1)) = some (r1, r2) := by rw [if_neg (show ¬ (false = true) by decide)] at H; exact H
  clear H
  have H := H1
  clear H1
  simp only [Option.some.injEq, Prod.mk.injEq] at H
  obtain ⟨rfl, rfl⟩ := H
  go_wp2
  repeat (go_quiet (fail); try go_wp2)
  go_ret2
  exact ⟨_, by first | rfl | (simp [*, ai_, ah_] <;> rfl), by first | exact Kd.S_nil _ _ _ _ _ | exact Kd.N_nil _ _ _ _ _ | exact Kd.V_nil _ _ _ _ _ | exact Kd.Q_nil _ _ _ _ _ | exact Kd.R_nil _ _ _ _ _, bz HB.out⟩
 subst c4
 have H1 : (aF_.l0 k l0 (([] : List (S43))) 0) = some (r1, r2) := by rw [if_pos rfl] at H; exact H
 clear H
 have H := H1
 clear H1
 obtain ⟨y102, hy102⟩ : ∃ y_ : List (S43), y_ = (([] : List (S43))) := ⟨_, rfl⟩
 replace H : (aF_.l0 k l0 y102 0) = some (r1, r2) := by first | (rw [hy102]; with_reducible exact H) | (have H2_ := (Option.bind_some _ _).symm.trans H; rw [hy102]; with_reducible exact H2_) | (have H2_ := (Option.bind_some _ _).symm.trans H; with_reducible exact H2_) | with_reducible exact H | (rw [hy102]; exact H) | exact H
 have Ny102 := Aside0.mk hy102
 clear hy102
 have H' := Aside0.mk H
 clear H
 go_wp2_with (first | ((with_reducible refine aI_ (N := 11) rfl ?_); refine Kd.S_lit k43 _ 43 ?hg (N := 11) ?hd (xs := ([] : List (S43))) (inner := []) (ok := fun _ => True) (okp := fun _ => True) ?hr ?hp (fun _ hk => hk) trivial (Below.refl _ _) (Nat.le_refl _) (by simp) ?_; (case hd => rfl); (case hg => rfl); (case hr => (go_simp; try rfl)); (case hp => exact (Reps.none _ _)); intro v103 w5 ho6 hb hg_ hnew_; clear hg_ hnew_; (first | rw [← Ny102.out] at ho6 | (simp only [Int.reduceToNat] at ho6; rw [← Ny102.out] at ho6)); have HO104 := Aside0.mk (Kd.S_lower ho6 (ad_ (bz HB.out))); replace HB := Aside0.mk (ac_ (bz HB.out) hb); clear hb ho6))
 repeat (go_quiet (first | ((with_reducible refine aI_ (N := 11) rfl ?_); refine Kd.S_lit k43 _ 43 ?hg (N := 11) ?hd (xs := ([] : List (S43))) (inner := []) (ok := fun _ => True) (okp := fun _ => True) ?hr ?hp (fun _ hk => hk) trivial (Below.refl _ _) (Nat.le_refl _) (by simp) ?_; (case hd => rfl); (case hg => rfl); (case hr => (go_simp; try rfl)); (case hp => exact (Reps.none _ _)); intro v103 w5 ho6 hb hg_ hnew_; clear hg_ hnew_; (first | rw [← Ny102.out] at ho6 | (simp only [Int.reduceToNat] at ho6; rw [← Ny102.out] at ho6)); have HO104 := Aside0.mk (Kd.S_lower ho6 (ad_ (bz HB.out))); replace HB := Aside0.mk (ac_ (bz HB.out) hb); clear hb ho6)); try go_wp2_with (first | ((with_reducible refine aI_ (N := 11) rfl ?_); refine Kd.S_lit k43 _ 43 ?hg (N := 11) ?hd (xs := ([] : List (S43))) (inner := []) (ok := fun _ => True) (okp := fun _ => True) ?hr ?hp (fun _ hk => hk) trivial (Below.refl _ _) (Nat.le_refl _) (by simp) ?_; (case hd => rfl); (case hg => rfl); (case hr => (go_simp; try rfl)); (case hp => exact (Reps.none _ _)); intro v103 w5 ho6 hb hg_ hnew_; clear hg_ hnew_; (first | rw [← Ny102.out] at ho6 | (simp only [Int.reduceToNat] at ho6; rw [← Ny102.out] at ho6)); have HO104 := Aside0.mk (Kd.S_lower ho6 (ad_ (bz HB.out))); replace HB := Aside0.mk (ac_ (bz HB.out) hb); clear hb ho6)))
 (try simp only [Act.put, lsa_, ls0_, ls1_])
 go_loopg [4, 5] k (fun kq v4 v5 w' => ∃ (x4_1 : List (S43)) (x5_1 : Int), v5 = .int .i64 x5_1 ∧ Aside0 (aF_.l0 kq l0 x4_1 x5_1 = some (r1, r2)) ∧ Aside0 (kq ≤ k) ∧ Aside0 (Kd.S k43 43 w' w.heap.size (fun _ => True) v4 x4_1) ∧ Aside0 (Below w.heap.size w w'))
 case atStart => exact ⟨(y102), (0), (by first | rfl | (simp; done) | (simp [*]; done)), H', ⟨Nat.le_refl _⟩, ⟨sz HO104.out⟩, ⟨bz HB.out⟩⟩
 case round =>
  clear H'
  obtain ⟨x4_1, x5_1, rfl, HA, HK1, HO_4, HB⟩ := hrel
  cases gk with
  | zero => exact absurd HA.out (by simp [aF_.l0])
  | succ k1 =>
   have H := HA.out
   clear HA
   simp only [aF_.l0] at H
   by_cases c7 : x5_1 < (l0.length : Int)
   rotate_left
   ·rw [if_neg c7] at H
    have c7b0 : decide (x5_1 < (l0.length : Int)) = false := decide_eq_false c7
    clear c7
    (first | rw [c7b0] | (simp only [i64_w, i32_w]; rw [c7b0]) | (simp only [c7b1, Bool.not_true, Bool.not_false]) | (simp only [c7b0, Bool.not_true, Bool.not_false]) | skip)
    by_cases c23 : (x4_1.length : Int) > 16
    rotate_left
    ·rw [if_neg c23] at H
     have c23b0 : decide (16 < (x4_1.length : Int)) = false := decide_eq_false c23
     have c23b1 : decide (16 < x4_1.length) = false := decide_eq_false (by omega)
     clear c23
     simp only [Option.some.injEq, Prod.mk.injEq] at H
     obtain ⟨rfl, rfl⟩ := H
     obtain ⟨Ao25, co25, eo25⟩ := Kd.cA_ HO_4.out
     subst eo25
     go_wp2
     repeat (go_quiet (fail); try go_wp2)
     go_ret2
     exact ⟨_, by first | rfl | (simp [*, ai_, ah_] <;> rfl), sz HO_4.out, bz HB.out⟩
    rw [if_pos c23] at H
    have c23b0 : decide (16 < (x4_1.length : Int)) = true := decide_eq_true c23
    have c23b1 : decide (16 < x4_1.length) = true := decide_eq_true (by omega)
    clear c23
    simp only [Option.some.injEq, Prod.mk.injEq] at H
    obtain ⟨rfl, rfl⟩ := H
    obtain ⟨Ao24, co24, eo24⟩ := Kd.cA_ HO_4.out
    subst eo24
    go_wp2
    repeat (go_quiet (fail); try go_wp2)
    go_ret2
    exact ⟨_, by first | rfl | (simp [*, ai_, ah_] <;> rfl), by first | exact Kd.S_nil _ _ _ _ _ | exact Kd.N_nil _ _ _ _ _ | exact Kd.V_nil _ _ _ _ _ | exact Kd.Q_nil _ _ _ _ _ | exact Kd.R_nil _ _ _ _ _, bz HB.out⟩
   rw [if_pos c7] at H
   have c7b0 : decide (x5_1 < (l0.length : Int)) = true := decide_eq_true c7
   clear c7
   (first | rw [c7b0] | (simp only [i64_w, i32_w]; rw [c7b0]) | (simp only [c7b1, Bool.not_true, Bool.not_false]) | (simp only [c7b0, Bool.not_true, Bool.not_false]) | skip)
   by_cases c8 : 0 ≤ x5_1
   rotate_left
   ·rw [if_neg c8] at H
    exact absurd H (by simp)
   rw [if_pos c8] at H
   have c8b0 : decide (0 ≤ x5_1) = true := decide_eq_true c8
   clear c8
   by_cases c9 : ((ag_ l0 x5_1).f0).toList = ([108, 101, 97, 102] : List UInt8)
   rotate_left
   ·rw [if_neg c9] at H
    have c9b0 : (((ag_ l0 x5_1).f0).toList == ([108, 101, 97, 102] : List UInt8)) = false := beq_eq_false_iff_ne.mpr c9
    have c9b1 : (((ag_ l0 x5_1).f0).toList != ([108, 101, 97, 102] : List UInt8)) = true := bne_iff_ne.mpr c9
    have H' := Aside0.mk H
    clear H
    have p105 : 0 ≤ (x5_1 : Int) := of_decide_eq_true (by assumption)
    have q105 : x5_1 < (l0.length : Int) := of_decide_eq_true (by assumption)
    obtain ⟨ad105, e105, hx105_0, hx105_1, hx105_2⟩ := bX_ HR0.out x5_1 p105 q105
    cases e105
    replace hx105_0 := bu_ HB.out hx105_0
    replace hx105_1 := bu_ HB.out hx105_1
    replace hx105_2 := bu_ HB.out hx105_2
    replace p105 := eq_true p105
    replace q105 := eq_true q105
    go_wp2
    repeat (go_quiet (fail); try go_wp2)
    go_roundg k1
    case measure => have := HK1.out; omega
    case rel => exact ⟨(x4_1), (wrap64 (x5_1 + 1)), (by first | rfl | (simp; done) | (simp [*]; done)), H', ⟨by have := HK1.out; omega⟩, ⟨sz HO_4.out⟩, ⟨bz HB.out⟩⟩
   rw [if_pos c9] at H
   have c9b0 : (((ag_ l0 x5_1).f0).toList == ([108, 101, 97, 102] : List UInt8)) = true := beq_iff_eq.mpr c9
   have c9b1 : (((ag_ l0 x5_1).f0).toList != ([108, 101, 97, 102] : List UInt8)) = false := bne_eq_false_iff_eq.mpr c9
   clear c9
   replace H := Option.bind_eq_some_iff.mp H
   obtain ⟨⟨t107, t108, t109, t110, t111, t112, t113, t114, t115, t118⟩, A100, H⟩ := H
   (try dsimp only at H)
   have A10 := Aside0.mk A100
   clear A100
   have HC11 := Aside0.mk H
   clear H
   have p105 : 0 ≤ (x5_1 : Int) := of_decide_eq_true (by assumption)
   have q105 : x5_1 < (l0.length : Int) := of_decide_eq_true (by assumption)
   obtain ⟨ad105, e105, hx105_0, hx105_1, hx105_2⟩ := bX_ HR0.out x5_1 p105 q105
   cases e105
   replace hx105_0 := bu_ HB.out hx105_0
   replace hx105_1 := bu_ HB.out hx105_1
   replace hx105_2 := bu_ HB.out hx105_2
   replace p105 := eq_true p105
   replace q105 := eq_true q105
   have p106 : 0 ≤ (x5_1 : Int) := of_decide_eq_true (by assumption)
   have q106 : x5_1 < (l0.length : Int) := of_decide_eq_true (by assumption)
   obtain ⟨ad106, e106, hx106_0, hx106_1, hx106_2⟩ := bX_ HR0.out x5_1 p106 q106
   obtain rfl : ad105 = ad106 := (by injection e106)
   replace hx106_0 := bu_ HB.out hx106_0
   replace hx106_1 := bu_ HB.out hx106_1
   replace hx106_2 := bu_ HB.out hx106_2
   replace p106 := eq_true p106
   replace q106 := eq_true q106
   go_upto_if 34 with (first | (go_at_call 15; (with_reducible refine (ax_.calls k1 ((ag_ l0 x5_1).f2) t107 t108 t109 t110 t111 t112 t113 t114 t115 t118 _ A10.out).mono ?_); rintro e w12 ⟨v116, rfl, ho0, hb⟩; replace HO_4 := Aside0.mk (Kd.S_elder' (sz HO_4.out) (Kd.bI_ ho0) hb); have HO117 := Aside0.mk (Kd.bz_ ho0 (ad_ (bz HB.out))); replace HB := Aside0.mk (ac_ (bz HB.out) hb); (try clear hb); (try clear ho0)) | ((with_reducible refine aI_ (N := 6) rfl ?_); refine aR_ ?hg (N := 6) ?hd (cs := #[.string (⟨#[]⟩ : ByteArray), .string (⟨#[]⟩ : ByteArray), .int .i64 0, .string (⟨#[]⟩ : ByteArray), .int .i64 0, .int .i64 0, .int .i64 0, .int .i64 0, .slice none 0 0]) (t := 43) ?hr ?_; (case hd => rfl); (case hg => rfl); (case hr => (go_simp; try rfl)); intro gb119 hg w13 hbox hb; replace HO_4 := Aside0.mk (Kd.bO_ (Kd.S_elderB (sz HO_4.out) gb119 (Nat.le_of_eq hg.symm)) hb); replace HO117 := Aside0.mk (Kd.aV_ (rz HO117.out) hb); have BK119 := Aside0.mk (hbox); have GW119 := Aside0.mk ((by rw [hg]; exact (ad_ (bz HB.out)) : w.heap.size ≤ gb119)); have GE119 := Aside0.mk ((by rw [hg]; exact (ad_ (bz HB.out)) : w.heap.size ≤ gb119)); replace HB := Aside0.mk (ac_ (bz HB.out) hb); clear hb hbox hg; obtain ⟨hcz14_0, hcz14_1, hcz14_2, hcz14_3, hcz14_4, hcz14_5, hcz14_6, hcz14_7, hcz14_8⟩ := cz9_ BK119.out; obtain ⟨hfz14_0, hfz14_1, hfz14_2, hfz14_3, hfz14_4, hfz14_5, hfz14_6, hfz14_7, hfz14_8⟩ := fz9_ BK119.out; obtain ⟨Ao15, co15, eo15⟩ := Kd.bv_ HO117.out; subst eo15) | ((with_reducible refine bJ_ (t := 43) (p := 6) rfl ?_); (try (rw [bm_ w13]; generalize hq_ : World.drewN w13 _ = w13; have n0_ := Aside0.mk (Kd.S_at hq_ HO_4.out); have n1_ := Aside0.mk (Kd.R_at hq_ HO117.out); have n2_ := Aside0.mk (blk_at hq_ BK119.out); have n3_ := Aside0.mk (below_at hq_ HB.out); clear hq_ HO_4 HO117 BK119 HB; have HO_4 := n0_; have HO117 := n1_; have BK119 := n2_; have HB := n3_; clear n0_ n1_ n2_ n3_)); refine by_ (t := 43) (p := 6) (v := ?vo_w16) (w1 := (((((((((w13.setCell ⟨gb119, 0, none⟩ (.string t107)).setCell ⟨gb119, 1, none⟩ (.string t108)).setCell ⟨gb119, 2, none⟩ (.int .i64 t109)).setCell ⟨gb119, 3, none⟩ (.string t110)).setCell ⟨gb119, 4, none⟩ (.int .i64 t111)).setCell ⟨gb119, 5, none⟩ (.int .i64 t112)).setCell ⟨gb119, 6, none⟩ (.int .i64 t113)).setCell ⟨gb119, 7, none⟩ (.int .i64 t114)).setCell ⟨gb119, 8, none⟩ (.slice Ao15 t115.length co15))) ?hg ?ho ?hn ?hr ?_; (case ho => rfl); (case hg => rfl); (case hn => rfl); (case hr => (go_simp; try rfl)); intro w16 hw; replace HO_4 : Aside0 (Kd.S k43 43 w16 w.heap.size (fun k_ => some k_ ≠ (.slice Ao15 t115.length co15 : Value).ownBlock ∧ k_ ≠ gb119) u4 x4_1) := ⟨(by rw [hw]; exact (sz (Kd.bY_ (Kd.S_far (p := ⟨gb119, 8, none⟩) (Kd.S_far (p := ⟨gb119, 7, none⟩) (Kd.S_far (p := ⟨gb119, 6, none⟩) (Kd.S_far (p := ⟨gb119, 5, none⟩) (Kd.S_far (p := ⟨gb119, 4, none⟩) (Kd.S_far (p := ⟨gb119, 3, none⟩) (Kd.S_far (p := ⟨gb119, 2, none⟩) (Kd.S_far (p := ⟨gb119, 1, none⟩) (Kd.S_far (p := ⟨gb119, 0, none⟩) (Kd.bY_ HO_4.out (fun k_ hk => (⟨hk, hk.2⟩ : _ ∧ k_ ≠ gb119))) (fun _ hk => hk.2) (.string t107)) (fun _ hk => hk.2) (.string t108)) (fun _ hk => hk.2) (.int .i64 t109)) (fun _ hk => hk.2) (.string t110)) (fun _ hk => hk.2) (.int .i64 t111)) (fun _ hk => hk.2) (.int .i64 t112)) (fun _ hk => hk.2) (.int .i64 t113)) (fun _ hk => hk.2) (.int .i64 t114)) (fun _ hk => hk.2) (.slice Ao15 t115.length co15)) (fun _ hk => ⟨hk.1.1.2, hk.1.2⟩))))⟩; replace HO117 : Aside0 (Kd.R k66 66 w16 w.heap.size (fun _ => True) (.slice Ao15 t115.length co15) t115) := ⟨(by rw [hw]; exact (rz (Kd.bg_ (Kd.R_far (p := ⟨gb119, 8, none⟩) (Kd.R_far (p := ⟨gb119, 7, none⟩) (Kd.R_far (p := ⟨gb119, 6, none⟩) (Kd.R_far (p := ⟨gb119, 5, none⟩) (Kd.R_far (p := ⟨gb119, 4, none⟩) (Kd.R_far (p := ⟨gb119, 3, none⟩) (Kd.R_far (p := ⟨gb119, 2, none⟩) (Kd.R_far (p := ⟨gb119, 1, none⟩) (Kd.R_far (p := ⟨gb119, 0, none⟩) (Kd.bW_ HO117.out BK119.out (by decide)) (fun _ hk => hk.2) (.string t107)) (fun _ hk => hk.2) (.string t108)) (fun _ hk => hk.2) (.int .i64 t109)) (fun _ hk => hk.2) (.string t110)) (fun _ hk => hk.2) (.int .i64 t111)) (fun _ hk => hk.2) (.int .i64 t112)) (fun _ hk => hk.2) (.int .i64 t113)) (fun _ hk => hk.2) (.int .i64 t114)) (fun _ hk => hk.2) (.slice Ao15 t115.length co15)) (fun _ hk => trivial))))⟩; replace BK119 : Aside0 (w16.heap[gb119]? = some (.cells #[.string t107, .string t108, .int .i64 t109, .string t110, .int .i64 t111, .int .i64 t112, .int .i64 t113, .int .i64 t114, .slice Ao15 t115.length co15] 43 (0, 0))) := ⟨(by rw [hw]; exact (by exact kj9_8 (kj9_7 (kj9_6 (kj9_5 (kj9_4 (kj9_3 (kj9_2 (kj9_1 (kj9_0 (kz BK119.out)))))))))))⟩; replace HB : Aside0 (Below w.heap.size w w16) := ⟨(by rw [hw]; exact (by repeat (first | (with_reducible first | exact HB.out | apply bA_ | apply bN_ | apply bD_ | refine aa_ ?_ GE119.out))))⟩; clear hw))
   repeat (go_quiet (first | (go_at_call 15; (with_reducible refine (ax_.calls k1 ((ag_ l0 x5_1).f2) t107 t108 t109 t110 t111 t112 t113 t114 t115 t118 _ A10.out).mono ?_); rintro e w12 ⟨v116, rfl, ho0, hb⟩; replace HO_4 := Aside0.mk (Kd.S_elder' (sz HO_4.out) (Kd.bI_ ho0) hb); have HO117 := Aside0.mk (Kd.bz_ ho0 (ad_ (bz HB.out))); replace HB := Aside0.mk (ac_ (bz HB.out) hb); (try clear hb); (try clear ho0)) | ((with_reducible refine aI_ (N := 6) rfl ?_); refine aR_ ?hg (N := 6) ?hd (cs := #[.string (⟨#[]⟩ : ByteArray), .string (⟨#[]⟩ : ByteArray), .int .i64 0, .string (⟨#[]⟩ : ByteArray), .int .i64 0, .int .i64 0, .int .i64 0, .int .i64 0, .slice none 0 0]) (t := 43) ?hr ?_; (case hd => rfl); (case hg => rfl); (case hr => (go_simp; try rfl)); intro gb119 hg w13 hbox hb; replace HO_4 := Aside0.mk (Kd.bO_ (Kd.S_elderB (sz HO_4.out) gb119 (Nat.le_of_eq hg.symm)) hb); replace HO117 := Aside0.mk (Kd.aV_ (rz HO117.out) hb); have BK119 := Aside0.mk (hbox); have GW119 := Aside0.mk ((by rw [hg]; exact (ad_ (bz HB.out)) : w.heap.size ≤ gb119)); have GE119 := Aside0.mk ((by rw [hg]; exact (ad_ (bz HB.out)) : w.heap.size ≤ gb119)); replace HB := Aside0.mk (ac_ (bz HB.out) hb); clear hb hbox hg; obtain ⟨hcz14_0, hcz14_1, hcz14_2, hcz14_3, hcz14_4, hcz14_5, hcz14_6, hcz14_7, hcz14_8⟩ := cz9_ BK119.out; obtain ⟨hfz14_0, hfz14_1, hfz14_2, hfz14_3, hfz14_4, hfz14_5, hfz14_6, hfz14_7, hfz14_8⟩ := fz9_ BK119.out; obtain ⟨Ao15, co15, eo15⟩ := Kd.bv_ HO117.out; subst eo15) | ((with_reducible refine bJ_ (t := 43) (p := 6) rfl ?_); (try (rw [bm_ w13]; generalize hq_ : World.drewN w13 _ = w13; have n0_ := Aside0.mk (Kd.S_at hq_ HO_4.out); have n1_ := Aside0.mk (Kd.R_at hq_ HO117.out); have n2_ := Aside0.mk (blk_at hq_ BK119.out); have n3_ := Aside0.mk (below_at hq_ HB.out); clear hq_ HO_4 HO117 BK119 HB; have HO_4 := n0_; have HO117 := n1_; have BK119 := n2_; have HB := n3_; clear n0_ n1_ n2_ n3_)); refine by_ (t := 43) (p := 6) (v := ?vo_w16) (w1 := (((((((((w13.setCell ⟨gb119, 0, none⟩ (.string t107)).setCell ⟨gb119, 1, none⟩ (.string t108)).setCell ⟨gb119, 2, none⟩ (.int .i64 t109)).setCell ⟨gb119, 3, none⟩ (.string t110)).setCell ⟨gb119, 4, none⟩ (.int .i64 t111)).setCell ⟨gb119, 5, none⟩ (.int .i64 t112)).setCell ⟨gb119, 6, none⟩ (.int .i64 t113)).setCell ⟨gb119, 7, none⟩ (.int .i64 t114)).setCell ⟨gb119, 8, none⟩ (.slice Ao15 t115.length co15))) ?hg ?ho ?hn ?hr ?_; (case ho => rfl); (case hg => rfl); (case hn => rfl); (case hr => (go_simp; try rfl)); intro w16 hw; replace HO_4 : Aside0 (Kd.S k43 43 w16 w.heap.size (fun k_ => some k_ ≠ (.slice Ao15 t115.length co15 : Value).ownBlock ∧ k_ ≠ gb119) u4 x4_1) := ⟨(by rw [hw]; exact (sz (Kd.bY_ (Kd.S_far (p := ⟨gb119, 8, none⟩) (Kd.S_far (p := ⟨gb119, 7, none⟩) (Kd.S_far (p := ⟨gb119, 6, none⟩) (Kd.S_far (p := ⟨gb119, 5, none⟩) (Kd.S_far (p := ⟨gb119, 4, none⟩) (Kd.S_far (p := ⟨gb119, 3, none⟩) (Kd.S_far (p := ⟨gb119, 2, none⟩) (Kd.S_far (p := ⟨gb119, 1, none⟩) (Kd.S_far (p := ⟨gb119, 0, none⟩) (Kd.bY_ HO_4.out (fun k_ hk => (⟨hk, hk.2⟩ : _ ∧ k_ ≠ gb119))) (fun _ hk => hk.2) (.string t107)) (fun _ hk => hk.2) (.string t108)) (fun _ hk => hk.2) (.int .i64 t109)) (fun _ hk => hk.2) (.string t110)) (fun _ hk => hk.2) (.int .i64 t111)) (fun _ hk => hk.2) (.int .i64 t112)) (fun _ hk => hk.2) (.int .i64 t113)) (fun _ hk => hk.2) (.int .i64 t114)) (fun _ hk => hk.2) (.slice Ao15 t115.length co15)) (fun _ hk => ⟨hk.1.1.2, hk.1.2⟩))))⟩; replace HO117 : Aside0 (Kd.R k66 66 w16 w.heap.size (fun _ => True) (.slice Ao15 t115.length co15) t115) := ⟨(by rw [hw]; exact (rz (Kd.bg_ (Kd.R_far (p := ⟨gb119, 8, none⟩) (Kd.R_far (p := ⟨gb119, 7, none⟩) (Kd.R_far (p := ⟨gb119, 6, none⟩) (Kd.R_far (p := ⟨gb119, 5, none⟩) (Kd.R_far (p := ⟨gb119, 4, none⟩) (Kd.R_far (p := ⟨gb119, 3, none⟩) (Kd.R_far (p := ⟨gb119, 2, none⟩) (Kd.R_far (p := ⟨gb119, 1, none⟩) (Kd.R_far (p := ⟨gb119, 0, none⟩) (Kd.bW_ HO117.out BK119.out (by decide)) (fun _ hk => hk.2) (.string t107)) (fun _ hk => hk.2) (.string t108)) (fun _ hk => hk.2) (.int .i64 t109)) (fun _ hk => hk.2) (.string t110)) (fun _ hk => hk.2) (.int .i64 t111)) (fun _ hk => hk.2) (.int .i64 t112)) (fun _ hk => hk.2) (.int .i64 t113)) (fun _ hk => hk.2) (.int .i64 t114)) (fun _ hk => hk.2) (.slice Ao15 t115.length co15)) (fun _ hk => trivial))))⟩; replace BK119 : Aside0 (w16.heap[gb119]? = some (.cells #[.string t107, .string t108, .int .i64 t109, .string t110, .int .i64 t111, .int .i64 t112, .int .i64 t113, .int .i64 t114, .slice Ao15 t115.length co15] 43 (0, 0))) := ⟨(by rw [hw]; exact (by exact kj9_8 (kj9_7 (kj9_6 (kj9_5 (kj9_4 (kj9_3 (kj9_2 (kj9_1 (kj9_0 (kz BK119.out)))))))))))⟩; replace HB : Aside0 (Below w.heap.size w w16) := ⟨(by rw [hw]; exact (by repeat (first | (with_reducible first | exact HB.out | apply bA_ | apply bN_ | apply bD_ | refine aa_ ?_ GE119.out))))⟩; clear hw)); go_upto_if 34 with (first | (go_at_call 15; (with_reducible refine (ax_.calls k1 ((ag_ l0 x5_1).f2) t107 t108 t109 t110 t111 t112 t113 t114 t115 t118 _ A10.out).mono ?_); rintro e w12 ⟨v116, rfl, ho0, hb⟩; replace HO_4 := Aside0.mk (Kd.S_elder' (sz HO_4.out) (Kd.bI_ ho0) hb); have HO117 := Aside0.mk (Kd.bz_ ho0 (ad_ (bz HB.out))); replace HB := Aside0.mk (ac_ (bz HB.out) hb); (try clear hb); (try clear ho0)) | ((with_reducible refine aI_ (N := 6) rfl ?_); refine aR_ ?hg (N := 6) ?hd (cs := #[.string (⟨#[]⟩ : ByteArray), .string (⟨#[]⟩ : ByteArray), .int .i64 0, .string (⟨#[]⟩ : ByteArray), .int .i64 0, .int .i64 0, .int .i64 0, .int .i64 0, .slice none 0 0]) (t := 43) ?hr ?_; (case hd => rfl); (case hg => rfl); (case hr => (go_simp; try rfl)); intro gb119 hg w13 hbox hb; replace HO_4 := Aside0.mk (Kd.bO_ (Kd.S_elderB (sz HO_4.out) gb119 (Nat.le_of_eq hg.symm)) hb); replace HO117 := Aside0.mk (Kd.aV_ (rz HO117.out) hb); have BK119 := Aside0.mk (hbox); have GW119 := Aside0.mk ((by rw [hg]; exact (ad_ (bz HB.out)) : w.heap.size ≤ gb119)); have GE119 := Aside0.mk ((by rw [hg]; exact (ad_ (bz HB.out)) : w.heap.size ≤ gb119)); replace HB := Aside0.mk (ac_ (bz HB.out) hb); clear hb hbox hg; obtain ⟨hcz14_0, hcz14_1, hcz14_2, hcz14_3, hcz14_4, hcz14_5, hcz14_6, hcz14_7, hcz14_8⟩ := cz9_ BK119.out; obtain ⟨hfz14_0, hfz14_1, hfz14_2, hfz14_3, hfz14_4, hfz14_5, hfz14_6, hfz14_7, hfz14_8⟩ := fz9_ BK119.out; obtain ⟨Ao15, co15, eo15⟩ := Kd.bv_ HO117.out; subst eo15) | ((with_reducible refine bJ_ (t := 43) (p := 6) rfl ?_); (try (rw [bm_ w13]; generalize hq_ : World.drewN w13 _ = w13; have n0_ := Aside0.mk (Kd.S_at hq_ HO_4.out); have n1_ := Aside0.mk (Kd.R_at hq_ HO117.out); have n2_ := Aside0.mk (blk_at hq_ BK119.out); have n3_ := Aside0.mk (below_at hq_ HB.out); clear hq_ HO_4 HO117 BK119 HB; have HO_4 := n0_; have HO117 := n1_; have BK119 := n2_; have HB := n3_; clear n0_ n1_ n2_ n3_)); refine by_ (t := 43) (p := 6) (v := ?vo_w16) (w1 := (((((((((w13.setCell ⟨gb119, 0, none⟩ (.string t107)).setCell ⟨gb119, 1, none⟩ (.string t108)).setCell ⟨gb119, 2, none⟩ (.int .i64 t109)).setCell ⟨gb119, 3, none⟩ (.string t110)).setCell ⟨gb119, 4, none⟩ (.int .i64 t111)).setCell ⟨gb119, 5, none⟩ (.int .i64 t112)).setCell ⟨gb119, 6, none⟩ (.int .i64 t113)).setCell ⟨gb119, 7, none⟩ (.int .i64 t114)).setCell ⟨gb119, 8, none⟩ (.slice Ao15 t115.length co15))) ?hg ?ho ?hn ?hr ?_; (case ho => rfl); (case hg => rfl); (case hn => rfl); (case hr => (go_simp; try rfl)); intro w16 hw; replace HO_4 : Aside0 (Kd.S k43 43 w16 w.heap.size (fun k_ => some k_ ≠ (.slice Ao15 t115.length co15 : Value).ownBlock ∧ k_ ≠ gb119) u4 x4_1) := ⟨(by rw [hw]; exact (sz (Kd.bY_ (Kd.S_far (p := ⟨gb119, 8, none⟩) (Kd.S_far (p := ⟨gb119, 7, none⟩) (Kd.S_far (p := ⟨gb119, 6, none⟩) (Kd.S_far (p := ⟨gb119, 5, none⟩) (Kd.S_far (p := ⟨gb119, 4, none⟩) (Kd.S_far (p := ⟨gb119, 3, none⟩) (Kd.S_far (p := ⟨gb119, 2, none⟩) (Kd.S_far (p := ⟨gb119, 1, none⟩) (Kd.S_far (p := ⟨gb119, 0, none⟩) (Kd.bY_ HO_4.out (fun k_ hk => (⟨hk, hk.2⟩ : _ ∧ k_ ≠ gb119))) (fun _ hk => hk.2) (.string t107)) (fun _ hk => hk.2) (.string t108)) (fun _ hk => hk.2) (.int .i64 t109)) (fun _ hk => hk.2) (.string t110)) (fun _ hk => hk.2) (.int .i64 t111)) (fun _ hk => hk.2) (.int .i64 t112)) (fun _ hk => hk.2) (.int .i64 t113)) (fun _ hk => hk.2) (.int .i64 t114)) (fun _ hk => hk.2) (.slice Ao15 t115.length co15)) (fun _ hk => ⟨hk.1.1.2, hk.1.2⟩))))⟩; replace HO117 : Aside0 (Kd.R k66 66 w16 w.heap.size (fun _ => True) (.slice Ao15 t115.length co15) t115) := ⟨(by rw [hw]; exact (rz (Kd.bg_ (Kd.R_far (p := ⟨gb119, 8, none⟩) (Kd.R_far (p := ⟨gb119, 7, none⟩) (Kd.R_far (p := ⟨gb119, 6, none⟩) (Kd.R_far (p := ⟨gb119, 5, none⟩) (Kd.R_far (p := ⟨gb119, 4, none⟩) (Kd.R_far (p := ⟨gb119, 3, none⟩) (Kd.R_far (p := ⟨gb119, 2, none⟩) (Kd.R_far (p := ⟨gb119, 1, none⟩) (Kd.R_far (p := ⟨gb119, 0, none⟩) (Kd.bW_ HO117.out BK119.out (by decide)) (fun _ hk => hk.2) (.string t107)) (fun _ hk => hk.2) (.string t108)) (fun _ hk => hk.2) (.int .i64 t109)) (fun _ hk => hk.2) (.string t110)) (fun _ hk => hk.2) (.int .i64 t111)) (fun _ hk => hk.2) (.int .i64 t112)) (fun _ hk => hk.2) (.int .i64 t113)) (fun _ hk => hk.2) (.int .i64 t114)) (fun _ hk => hk.2) (.slice Ao15 t115.length co15)) (fun _ hk => trivial))))⟩; replace BK119 : Aside0 (w16.heap[gb119]? = some (.cells #[.string t107, .string t108, .int .i64 t109, .string t110, .int .i64 t111, .int .i64 t112, .int .i64 t113, .int .i64 t114, .slice Ao15 t115.length co15] 43 (0, 0))) := ⟨(by rw [hw]; exact (by exact kj9_8 (kj9_7 (kj9_6 (kj9_5 (kj9_4 (kj9_3 (kj9_2 (kj9_1 (kj9_0 (kz BK119.out)))))))))))⟩; replace HB : Aside0 (Below w.heap.size w w16) := ⟨(by rw [hw]; exact (by repeat (first | (with_reducible first | exact HB.out | apply bA_ | apply bN_ | apply bD_ | refine aa_ ?_ GE119.out))))⟩; clear hw)))
   (try simp only [Act.put, lsa_, ls0_, ls1_])
   have H := HC11.out
   clear HC11
   by_cases c17 : t118 = true
   rotate_left
   ·replace c17 := Bool.eq_false_iff.mpr c17
    subst c17
    have H1 : (some (([] : List (S43)), 9)) = some (r1, r2) := by rw [if_neg (show ¬ (false = true) by decide)] at H; exact H
    clear H
    have H := H1
    clear H1
    simp only [Option.some.injEq, Prod.mk.injEq] at H
    obtain ⟨rfl, rfl⟩ := H
    go_wp2
    repeat (go_quiet (fail); try go_wp2)
    go_ret2
    exact ⟨_, by first | rfl | (simp [*, ai_, ah_] <;> rfl), by first | exact Kd.S_nil _ _ _ _ _ | exact Kd.N_nil _ _ _ _ _ | exact Kd.V_nil _ _ _ _ _ | exact Kd.Q_nil _ _ _ _ _ | exact Kd.R_nil _ _ _ _ _, by repeat (first | (with_reducible first | exact HB.out | apply bA_ | apply bN_ | apply bD_ | refine aa_ ?_ GE119.out))⟩
   subst c17
   have H1 : (if t107.toList = ((ag_ l0 x5_1).f1).toList then (if x4_1.length < 1256584717458 then (aF_.l0 k1 l0 (x4_1 ++ [(⟨t107, t108, t109, (⟨t110, t111, t112⟩ : S40), t113, t114, t115⟩ : S43)]) (wrap64 (x5_1 + 1))) else (none)) else (some (([] : List (S43)), 6))) = some (r1, r2) := by rw [if_pos rfl] at H; exact H
   clear H
   have H := H1
   clear H1
   by_cases c18 : t107.toList = ((ag_ l0 x5_1).f1).toList
   rotate_left
   ·rw [if_neg c18] at H
    have c18b0 : (t107.toList == ((ag_ l0 x5_1).f1).toList) = false := beq_eq_false_iff_ne.mpr c18
    have c18b1 : (t107.toList != ((ag_ l0 x5_1).f1).toList) = true := bne_iff_ne.mpr c18
    (first | rw [c18b0] | (simp only [i64_w, i32_w]; rw [c18b0]) | (simp only [c18b1, Bool.not_true, Bool.not_false]) | (simp only [c18b0, Bool.not_true, Bool.not_false]) | skip)
    simp only [Option.some.injEq, Prod.mk.injEq] at H
    obtain ⟨rfl, rfl⟩ := H
    obtain ⟨hcz22_0, hcz22_1, hcz22_2, hcz22_3, hcz22_4, hcz22_5, hcz22_6, hcz22_7, hcz22_8⟩ := cz9_ BK119.out
    obtain ⟨hfz22_0, hfz22_1, hfz22_2, hfz22_3, hfz22_4, hfz22_5, hfz22_6, hfz22_7, hfz22_8⟩ := fz9_ BK119.out
    have p120 : 0 ≤ (x5_1 : Int) := of_decide_eq_true (by assumption)
    have q120 : x5_1 < (l0.length : Int) := of_decide_eq_true (by assumption)
    obtain ⟨ad120, e120, hx120_0, hx120_1, hx120_2⟩ := bX_ HR0.out x5_1 p120 q120
    obtain rfl : ad105 = ad120 := (by injection e120)
    replace hx120_0 := bu_ HB.out hx120_0
    replace hx120_1 := bu_ HB.out hx120_1
    replace hx120_2 := bu_ HB.out hx120_2
    replace p120 := eq_true p120
    replace q120 := eq_true q120
    go_wp2
    repeat (go_quiet (fail); try go_wp2)
    go_ret2
    exact ⟨_, by first | rfl | (simp [*, ai_, ah_] <;> rfl), by first | exact Kd.S_nil _ _ _ _ _ | exact Kd.N_nil _ _ _ _ _ | exact Kd.V_nil _ _ _ _ _ | exact Kd.Q_nil _ _ _ _ _ | exact Kd.R_nil _ _ _ _ _, by repeat (first | (with_reducible first | exact HB.out | apply bA_ | apply bN_ | apply bD_ | refine aa_ ?_ GE119.out))⟩
   rw [if_pos c18] at H
   have c18b0 : (t107.toList == ((ag_ l0 x5_1).f1).toList) = true := beq_iff_eq.mpr c18
   have c18b1 : (t107.toList != ((ag_ l0 x5_1).f1).toList) = false := bne_eq_false_iff_eq.mpr c18
   clear c18
   (first | rw [c18b0] | (simp only [i64_w, i32_w]; rw [c18b0]) | (simp only [c18b1, Bool.not_true, Bool.not_false]) | (simp only [c18b0, Bool.not_true, Bool.not_false]) | skip)
   by_cases c19 : x4_1.length < 1256584717458
   rotate_left
   ·rw [if_neg c19] at H
    exact absurd H (by simp)
   rw [if_pos c19] at H
   have LMc19 := Aside0.mk c19
   clear c19
   obtain ⟨y121, hy121⟩ : ∃ y_ : List (S43), y_ = (x4_1 ++ [(⟨t107, t108, t109, (⟨t110, t111, t112⟩ : S40), t113, t114, t115⟩ : S43)]) := ⟨_, rfl⟩
   replace H : (aF_.l0 k1 l0 y121 (wrap64 (x5_1 + 1))) = some (r1, r2) := by first | (rw [hy121]; with_reducible exact H) | (have H2_ := (Option.bind_some _ _).symm.trans H; rw [hy121]; with_reducible exact H2_) | (have H2_ := (Option.bind_some _ _).symm.trans H; with_reducible exact H2_) | with_reducible exact H | (rw [hy121]; exact H) | exact H
   have Ny121 := Aside0.mk hy121
   clear hy121
   have H' := Aside0.mk H
   clear H
   obtain ⟨hcz20_0, hcz20_1, hcz20_2, hcz20_3, hcz20_4, hcz20_5, hcz20_6, hcz20_7, hcz20_8⟩ := cz9_ BK119.out
   obtain ⟨hfz20_0, hfz20_1, hfz20_2, hfz20_3, hfz20_4, hfz20_5, hfz20_6, hfz20_7, hfz20_8⟩ := fz9_ BK119.out
   have p120 : 0 ≤ (x5_1 : Int) := of_decide_eq_true (by assumption)
   have q120 : x5_1 < (l0.length : Int) := of_decide_eq_true (by assumption)
   obtain ⟨ad120, e120, hx120_0, hx120_1, hx120_2⟩ := bX_ HR0.out x5_1 p120 q120
   obtain rfl : ad105 = ad120 := (by injection e120)
   replace hx120_0 := bu_ HB.out hx120_0
   replace hx120_1 := bu_ HB.out hx120_1
   replace hx120_2 := bu_ HB.out hx120_2
   replace p120 := eq_true p120
   replace q120 := eq_true q120
   go_wp2_with (first | ((with_reducible refine cg_ (b := .append) (xs := #[.tmp 43, .tmp 45]) rfl ?_); at_builtin; refine Kd.S_append k43 (w0 := w) w.heap.size rfl (.tmp 43) (.tmp 45) 24 43 (.agg #[(.string ⟨#[]⟩), (.string ⟨#[]⟩), (.int .i64 0), (.string ⟨#[]⟩), (.int .i64 0), (.int .i64 0), (.int .i64 0), (.int .i64 0), (.slice none 0 0)]) 112 rfl Tryz.underlying24 info43 rfl (by decide) (by omega) u4 x4_1 (⟨t107, t108, t109, (⟨t110, t111, t112⟩ : S40), t113, t114, t115⟩ : S43) [.string t107, .string t108, .int .i64 t109, .string t110, .int .i64 t111, .int .i64 t112, .int .i64 t113, .int .i64 t114, .slice Ao15 t115.length co15] (fun k_ => k_ ≠ gb119) (fun k_ => some k_ = (.slice Ao15 t115.length co15 : Value).ownBlock) rfl rfl ?aP (fun k_ hk_ => ((Kd.bg_ (ok' := fun k_ => ((fun k_ => k_ ≠ gb119)) k_ ∧ some k_ ≠ (u4 : Value).ownBlock) (Kd.bW_ (Kd.dh_ (HO117.out) (Kd.S_typed HO_4.out) (by decide)) BK119.out (by decide)) (fun k_ hk => ⟨hk.2, hk.1.2⟩))).1 k_ hk_.symm) ?aF ?aO ?aB ?aS ?aL ?_; (case aP => exact cV_ _ _ _ (⟨t107, t108, t109, (⟨t110, t111, t112⟩ : S40), t113, t114, t115⟩ : S43) (Kd.bg_ (Kd.R_tight rfl (Kd.bg_ (ok' := fun k_ => ((fun k_ => k_ ≠ gb119)) k_ ∧ some k_ ≠ (u4 : Value).ownBlock) (Kd.bW_ (Kd.dh_ (HO117.out) (Kd.S_typed HO_4.out) (by decide)) BK119.out (by decide)) (fun k_ hk => ⟨hk.2, hk.1.2⟩))) (fun _ h_ => h_))); (case aB => exact (by repeat (first | (with_reducible first | exact HB.out | apply bA_ | apply bN_ | apply bD_ | refine aa_ ?_ GE119.out)))); (case aF => exact (fun k_ hk => Kd.freshB (g := gb119) (o := .cells #[.string t107, .string t108, .int .i64 t109, .string t110, .int .i64 t111, .int .i64 t112, .int .i64 t113, .int .i64 t114, .slice Ao15 t115.length co15] 43 (0, 0)) (kz BK119.out) k_ hk)); (case aO => exact (sz (Kd.bY_ HO_4.out (fun k_ hk => ⟨hk.2, fun e_ => hk.1 e_⟩)))); (case aS => exact (ad_ (by repeat (first | (with_reducible first | exact HB.out | apply bA_ | apply bN_ | apply bD_ | refine aa_ ?_ GE119.out))))); (case aL => have := LMc19.out; omega); intro v122 w21 ho hb hg hat; rw [← Ny121.out] at ho; replace BK119 := Aside0.mk (co_ (g := gb119) (o := .cells #[.string t107, .string t108, .int .i64 t109, .string t110, .int .i64 t111, .int .i64 t112, .int .i64 t113, .int .i64 t114, .slice Ao15 t115.length co15] 43 (0, 0)) (kz BK119.out) hg (Kd.S_away HO_4.out (fun _ hk => hk.2))); replace HB := Aside0.mk (hb); have HO123 := Aside0.mk (ho); clear HO_4; clear HO117; clear ho hb hg hat))
   repeat (go_quiet (first | ((with_reducible refine cg_ (b := .append) (xs := #[.tmp 43, .tmp 45]) rfl ?_); at_builtin; refine Kd.S_append k43 (w0 := w) w.heap.size rfl (.tmp 43) (.tmp 45) 24 43 (.agg #[(.string ⟨#[]⟩), (.string ⟨#[]⟩), (.int .i64 0), (.string ⟨#[]⟩), (.int .i64 0), (.int .i64 0), (.int .i64 0), (.int .i64 0), (.slice none 0 0)]) 112 rfl Tryz.underlying24 info43 rfl (by decide) (by omega) u4 x4_1 (⟨t107, t108, t109, (⟨t110, t111, t112⟩ : S40), t113, t114, t115⟩ : S43) [.string t107, .string t108, .int .i64 t109, .string t110, .int .i64 t111, .int .i64 t112, .int .i64 t113, .int .i64 t114, .slice Ao15 t115.length co15] (fun k_ => k_ ≠ gb119) (fun k_ => some k_ = (.slice Ao15 t115.length co15 : Value).ownBlock) rfl rfl ?aP (fun k_ hk_ => ((Kd.bg_ (ok' := fun k_ => ((fun k_ => k_ ≠ gb119)) k_ ∧ some k_ ≠ (u4 : Value).ownBlock) (Kd.bW_ (Kd.dh_ (HO117.out) (Kd.S_typed HO_4.out) (by decide)) BK119.out (by decide)) (fun k_ hk => ⟨hk.2, hk.1.2⟩))).1 k_ hk_.symm) ?aF ?aO ?aB ?aS ?aL ?_; (case aP => exact cV_ _ _ _ (⟨t107, t108, t109, (⟨t110, t111, t112⟩ : S40), t113, t114, t115⟩ : S43) (Kd.bg_ (Kd.R_tight rfl (Kd.bg_ (ok' := fun k_ => ((fun k_ => k_ ≠ gb119)) k_ ∧ some k_ ≠ (u4 : Value).ownBlock) (Kd.bW_ (Kd.dh_ (HO117.out) (Kd.S_typed HO_4.out) (by decide)) BK119.out (by decide)) (fun k_ hk => ⟨hk.2, hk.1.2⟩))) (fun _ h_ => h_))); (case aB => exact (by repeat (first | (with_reducible first | exact HB.out | apply bA_ | apply bN_ | apply bD_ | refine aa_ ?_ GE119.out)))); (case aF => exact (fun k_ hk => Kd.freshB (g := gb119) (o := .cells #[.string t107, .string t108, .int .i64 t109, .string t110, .int .i64 t111, .int .i64 t112, .int .i64 t113, .int .i64 t114, .slice Ao15 t115.length co15] 43 (0, 0)) (kz BK119.out) k_ hk)); (case aO => exact (sz (Kd.bY_ HO_4.out (fun k_ hk => ⟨hk.2, fun e_ => hk.1 e_⟩)))); (case aS => exact (ad_ (by repeat (first | (with_reducible first | exact HB.out | apply bA_ | apply bN_ | apply bD_ | refine aa_ ?_ GE119.out))))); (case aL => have := LMc19.out; omega); intro v122 w21 ho hb hg hat; rw [← Ny121.out] at ho; replace BK119 := Aside0.mk (co_ (g := gb119) (o := .cells #[.string t107, .string t108, .int .i64 t109, .string t110, .int .i64 t111, .int .i64 t112, .int .i64 t113, .int .i64 t114, .slice Ao15 t115.length co15] 43 (0, 0)) (kz BK119.out) hg (Kd.S_away HO_4.out (fun _ hk => hk.2))); replace HB := Aside0.mk (hb); have HO123 := Aside0.mk (ho); clear HO_4; clear HO117; clear ho hb hg hat)); try go_wp2_with (first | ((with_reducible refine cg_ (b := .append) (xs := #[.tmp 43, .tmp 45]) rfl ?_); at_builtin; refine Kd.S_append k43 (w0 := w) w.heap.size rfl (.tmp 43) (.tmp 45) 24 43 (.agg #[(.string ⟨#[]⟩), (.string ⟨#[]⟩), (.int .i64 0), (.string ⟨#[]⟩), (.int .i64 0), (.int .i64 0), (.int .i64 0), (.int .i64 0), (.slice none 0 0)]) 112 rfl Tryz.underlying24 info43 rfl (by decide) (by omega) u4 x4_1 (⟨t107, t108, t109, (⟨t110, t111, t112⟩ : S40), t113, t114, t115⟩ : S43) [.string t107, .string t108, .int .i64 t109, .string t110, .int .i64 t111, .int .i64 t112, .int .i64 t113, .int .i64 t114, .slice Ao15 t115.length co15] (fun k_ => k_ ≠ gb119) (fun k_ => some k_ = (.slice Ao15 t115.length co15 : Value).ownBlock) rfl rfl ?aP (fun k_ hk_ => ((Kd.bg_ (ok' := fun k_ => ((fun k_ => k_ ≠ gb119)) k_ ∧ some k_ ≠ (u4 : Value).ownBlock) (Kd.bW_ (Kd.dh_ (HO117.out) (Kd.S_typed HO_4.out) (by decide)) BK119.out (by decide)) (fun k_ hk => ⟨hk.2, hk.1.2⟩))).1 k_ hk_.symm) ?aF ?aO ?aB ?aS ?aL ?_; (case aP => exact cV_ _ _ _ (⟨t107, t108, t109, (⟨t110, t111, t112⟩ : S40), t113, t114, t115⟩ : S43) (Kd.bg_ (Kd.R_tight rfl (Kd.bg_ (ok' := fun k_ => ((fun k_ => k_ ≠ gb119)) k_ ∧ some k_ ≠ (u4 : Value).ownBlock) (Kd.bW_ (Kd.dh_ (HO117.out) (Kd.S_typed HO_4.out) (by decide)) BK119.out (by decide)) (fun k_ hk => ⟨hk.2, hk.1.2⟩))) (fun _ h_ => h_))); (case aB => exact (by repeat (first | (with_reducible first | exact HB.out | apply bA_ | apply bN_ | apply bD_ | refine aa_ ?_ GE119.out)))); (case aF => exact (fun k_ hk => Kd.freshB (g := gb119) (o := .cells #[.string t107, .string t108, .int .i64 t109, .string t110, .int .i64 t111, .int .i64 t112, .int .i64 t113, .int .i64 t114, .slice Ao15 t115.length co15] 43 (0, 0)) (kz BK119.out) k_ hk)); (case aO => exact (sz (Kd.bY_ HO_4.out (fun k_ hk => ⟨hk.2, fun e_ => hk.1 e_⟩)))); (case aS => exact (ad_ (by repeat (first | (with_reducible first | exact HB.out | apply bA_ | apply bN_ | apply bD_ | refine aa_ ?_ GE119.out))))); (case aL => have := LMc19.out; omega); intro v122 w21 ho hb hg hat; rw [← Ny121.out] at ho; replace BK119 := Aside0.mk (co_ (g := gb119) (o := .cells #[.string t107, .string t108, .int .i64 t109, .string t110, .int .i64 t111, .int .i64 t112, .int .i64 t113, .int .i64 t114, .slice Ao15 t115.length co15] 43 (0, 0)) (kz BK119.out) hg (Kd.S_away HO_4.out (fun _ hk => hk.2))); replace HB := Aside0.mk (hb); have HO123 := Aside0.mk (ho); clear HO_4; clear HO117; clear ho hb hg hat)))
   go_roundg k1
   case measure => have := HK1.out; omega
   case rel => exact ⟨(y121), (wrap64 (x5_1 + 1)), (by first | rfl | (simp; done) | (simp [*]; done)), H', ⟨by have := HK1.out; omega⟩, ⟨sz (Kd.bY_ HO123.out (fun _ hk => trivial))⟩, ⟨by repeat (first | (with_reducible first | exact HB.out | apply bA_ | apply bN_ | apply bD_ | refine aa_ ?_ GE119.out))⟩⟩
def cQ_.f (a0_0 : ByteArray) (a0_1 : ByteArray) (a0_2 : ByteArray) : Option (ByteArray × ByteArray × ByteArray) := some (a0_0, a0_1, a0_2)
set_option maxHeartbeats 8000000 in
set_option maxRecDepth 100000 in
theorem cQ_.calls (a0_0 : ByteArray) (a0_1 : ByteArray) (a0_2 : ByteArray) (r1 : ByteArray) (r2 : ByteArray) (r3 : ByteArray) (w : World) (h : cQ_.f a0_0 a0_1 a0_2 = some (r1, r2, r3)) :
  Calls Tryz.prog 16 #[.agg #[.string a0_0, .string a0_1, .string a0_2]] w fun e w' => e = .returned (.agg #[.string r1, .string r2, .string r3]) ∧ Below w.heap.size w w' := by
 have hu36 := Tryz.underlying36
 have hu38 := Tryz.underlying38
 have HB := Aside0.mk (Below.refl w.heap.size w)
 have H : (some (a0_0, a0_1, a0_2)) = some (r1, r2, r3) := h
 clear h
 simp only [Option.some.injEq, Prod.mk.injEq] at H
 obtain ⟨rfl, rfl, rfl⟩ := H
 go_enter Tryz.func16, Tryz.ntmps16
 go_wp2_with (first | ((with_reducible refine aI_ (N := 1) rfl ?_); refine aR_ ?hg (N := 1) ?hd (cs := #[.string a0_0, .string a0_1, .string a0_2]) (t := 36) ?hr ?_; (case hd => rfl); (case hg => rfl); (case hr => (go_simp; try rfl)); intro gb101 hg w2 hbox hb; have BK101 := Aside0.mk (hbox); have GW101 := Aside0.mk ((by rw [hg]; exact (ad_ (bz HB.out)) : w.heap.size ≤ gb101)); have GE101 := Aside0.mk ((by rw [hg]; exact (ad_ (bz HB.out)) : w.heap.size ≤ gb101)); replace HB := Aside0.mk (ac_ (bz HB.out) hb); clear hb hbox hg) | ((with_reducible refine aI_ (N := 2) rfl ?_); refine aR_ ?hg (N := 2) ?hd (cs := #[.string (⟨#[]⟩ : ByteArray), .string (⟨#[]⟩ : ByteArray), .string (⟨#[]⟩ : ByteArray)]) (t := 38) ?hr ?_; (case hd => rfl); (case hg => rfl); (case hr => (go_simp; try rfl)); intro gb102 hg w3 hbox hb; have BK102 := Aside0.mk (hbox); have GW102 := Aside0.mk ((by rw [hg]; exact (ad_ (by repeat (first | (with_reducible first | exact HB.out | apply bA_ | apply bN_ | apply bD_ | refine aa_ ?_ GE101.out)))) : w.heap.size ≤ gb102)); have GE102 := Aside0.mk ((by rw [hg]; exact (ad_ (by repeat (first | (with_reducible first | exact HB.out | apply bA_ | apply bN_ | apply bD_ | refine aa_ ?_ GE101.out)))) : w.heap.size ≤ gb102)); replace HB := Aside0.mk (ac_ (by repeat (first | (with_reducible first | exact HB.out | apply bA_ | apply bN_ | apply bD_ | refine aa_ ?_ GE101.out))) hb); have NB101_102 := Aside0.mk ((by rw [hg]; exact Nat.ne_of_lt (bF_ (kz BK101.out)) : gb101 ≠ gb102)); have NB102_101 := Aside0.mk ((by rw [hg]; exact Nat.ne_of_gt (bF_ (kz BK101.out)) : gb102 ≠ gb101)); replace BK101 := Aside0.mk (an_ (kz BK101.out) hb); clear hb hbox hg) | ((with_reducible refine aI_ (N := 3) rfl ?_); refine aR_ ?hg (N := 3) ?hd (cs := #[.string (⟨#[]⟩ : ByteArray), .string (⟨#[]⟩ : ByteArray), .string (⟨#[]⟩ : ByteArray)]) (t := 38) ?hr ?_; (case hd => rfl); (case hg => rfl); (case hr => (go_simp; try rfl)); intro gb103 hg w4 hbox hb; have BK103 := Aside0.mk (hbox); have GW103 := Aside0.mk ((by rw [hg]; exact (ad_ (by repeat (first | (with_reducible first | exact HB.out | apply bA_ | apply bN_ | apply bD_ | refine aa_ ?_ GE101.out | refine aa_ ?_ GE102.out)))) : w.heap.size ≤ gb103)); have GE103 := Aside0.mk ((by rw [hg]; exact (ad_ (by repeat (first | (with_reducible first | exact HB.out | apply bA_ | apply bN_ | apply bD_ | refine aa_ ?_ GE101.out | refine aa_ ?_ GE102.out)))) : w.heap.size ≤ gb103)); replace HB := Aside0.mk (ac_ (by repeat (first | (with_reducible first | exact HB.out | apply bA_ | apply bN_ | apply bD_ | refine aa_ ?_ GE101.out | refine aa_ ?_ GE102.out))) hb); have NB101_103 := Aside0.mk ((by rw [hg]; exact Nat.ne_of_lt (bF_ (kz BK101.out)) : gb101 ≠ gb103)); have NB103_101 := Aside0.mk ((by rw [hg]; exact Nat.ne_of_gt (bF_ (kz BK101.out)) : gb103 ≠ gb101)); replace BK101 := Aside0.mk (an_ (kz BK101.out) hb); have NB102_103 := Aside0.mk ((by rw [hg]; exact Nat.ne_of_lt (bF_ (kz BK102.out)) : gb102 ≠ gb103)); have NB103_102 := Aside0.mk ((by rw [hg]; exact Nat.ne_of_gt (bF_ (kz BK102.out)) : gb103 ≠ gb102)); replace BK102 := Aside0.mk (an_ (kz BK102.out) hb); clear hb hbox hg; have hnb5 := NB101_102.out; have hnc5 := NB102_101.out; have hnb6 := NB101_103.out; have hnc6 := NB103_101.out; obtain ⟨hcz7_0, hcz7_1, hcz7_2⟩ := cz3_ BK101.out; obtain ⟨hfz7_0, hfz7_1, hfz7_2⟩ := fz3_ BK101.out; have hnb8 := NB103_102.out; have hnc8 := NB102_103.out; obtain ⟨hcz9_0, hcz9_1, hcz9_2⟩ := cz3_ BK103.out; obtain ⟨hfz9_0, hfz9_1, hfz9_2⟩ := fz3_ BK103.out; obtain ⟨hcz10_0, hcz10_1, hcz10_2⟩ := cz3_ BK102.out; obtain ⟨hfz10_0, hfz10_1, hfz10_2⟩ := fz3_ BK102.out))
 refine bodyPost_ret (results_cell_row rfl _ _ gb102 38 #[.string a0_0, .string a0_1, .string a0_2] (0, 0) _ rfl (by exact kj3_2 (kj3_1 (kj3_0 (kf (kf (kf (kz BK102.out) NB102_103.out) NB102_103.out) NB102_103.out)))) Tryz.underlying38 rfl (by kernel_rfl)) rfl ?_
 exact ⟨by first | rfl | (simp [*, ai_, ah_] <;> rfl), by repeat (first | (with_reducible first | exact HB.out | apply bA_ | apply bN_ | apply bD_ | refine aa_ ?_ GE101.out | refine aa_ ?_ GE102.out | refine aa_ ?_ GE103.out))⟩
def aX_.l0 : Nat → List (S36) → List (S38) → Int → Option ((List (S38)))
 | 0, _, _, _ => none
 | k + 1, x0, x3, x4 => if x4 < (x0.length : Int) then (if 0 ≤ x4 then ((cQ_.f ((cF_ x0 x4).f0) ((cF_ x0 x4).f1) ((cF_ x0 x4).f2)).bind fun bt105 => (if x4 < (x3.length : Int) then (aX_.l0 k x0 (x3.set (x4 : Int).toNat (⟨bt105.1, bt105.2.1, bt105.2.2⟩ : S38)) (wrap64 (x4 + 1))) else (none))) else (none)) else (some x3)
def aX_.f (k : Nat) (l0 : List (S36)) : Option ((List (S38))) := if 0 ≤ (l0.length : Int) then (if ((l0.length : Int) : Int).toNat ≤ 5864062014805 then (aX_.l0 k l0 (List.replicate ((l0.length : Int) : Int).toNat z38) 0) else (none)) else (none)
set_option maxHeartbeats 8000000 in
set_option maxRecDepth 100000 in
theorem aX_.calls (k : Nat) (A0 : Option Addr) (c0 : Nat) (l0 : List (S36)) (r : List (S38)) (w : World) (hr0 : Kd.C k36 w A0 l0.length l0) (hc0 : l0.length ≤ c0) (h : aX_.f k l0 = some r) :
  Calls Tryz.prog 6 #[.slice A0 l0.length c0] w fun e w' => ∃ v0_ : Value, e = .returned (v0_) ∧ Kd.R k38 38 w' w.heap.size (fun _ => True) v0_ r ∧ Below w.heap.size w w' := by
 have hu36 := Tryz.underlying36
 have hu38 := Tryz.underlying38
 have HR0 := Aside0.mk hr0
 have HC0 := Aside0.mk hc0
 clear hr0 hc0
 have HB := Aside0.mk (Below.refl w.heap.size w)
 have H : (if 0 ≤ (l0.length : Int) then (if ((l0.length : Int) : Int).toNat ≤ 5864062014805 then (aX_.l0 k l0 (List.replicate ((l0.length : Int) : Int).toNat z38) 0) else (none)) else (none)) = some r := h
 clear h
 by_cases c2 : 0 ≤ (l0.length : Int)
 rotate_left
 ·rw [if_neg c2] at H
  exact absurd H (by simp)
 rw [if_pos c2] at H
 have c2b0 := eq_true c2
 have c2b1 : decide (0 ≤ (l0.length : Int)) = true := decide_eq_true c2
 clear c2
 by_cases c3 : ((l0.length : Int) : Int).toNat ≤ 5864062014805
 rotate_left
 ·rw [if_neg c3] at H
  exact absurd H (by simp)
 rw [if_pos c3] at H
 have c3b0 := eq_true c3
 have c3b1 : decide (((l0.length : Int) : Int).toNat ≤ 5864062014805) = true := decide_eq_true c3
 clear c3
 obtain ⟨y101, hy101⟩ : ∃ y_ : List (S38), y_ = (List.replicate ((l0.length : Int) : Int).toNat z38) := ⟨_, rfl⟩
 replace H : (aX_.l0 k l0 y101 0) = some r := by first | (rw [hy101]; with_reducible exact H) | (have H2_ := (Option.bind_some _ _).symm.trans H; rw [hy101]; with_reducible exact H2_) | (have H2_ := (Option.bind_some _ _).symm.trans H; with_reducible exact H2_) | with_reducible exact H | (rw [hy101]; exact H) | exact H
 have Ny101 := Aside0.mk hy101
 clear hy101
 have H' := Aside0.mk H
 clear H
 go_enter Tryz.func6, Tryz.ntmps6
 go_wp2_with (first | ((with_reducible refine aI_ (N := 7) rfl ?_); refine Kd.R_make k38 _ 38 rfl (N := 7) rfl 27 _ _ rfl (l0.length : Int) rfl rfl Tryz.underlying27 (.agg #[(.string ⟨#[]⟩), (.string ⟨#[]⟩), (.string ⟨#[]⟩)]) 48 info38 rfl (by decide) (by omega) z38 (ok := fun _ => True) (okp := fun _ => True) (k38_mkM _ _ _ z38 ) (fun _ hk => hk) trivial (of_decide_eq_true (by assumption)) (Nat.le_trans (Nat.mul_le_mul_right _ (of_decide_eq_true (by assumption) : (l0.length : Int).toNat ≤ 5864062014805)) (by omega)) (Below.refl _ _) (Nat.le_refl _) ?_; intro v102 w4 ho5 hb hg_ hnew_; clear hg_ hnew_; (first | rw [← Ny101.out] at ho5 | (simp only [Int.reduceToNat] at ho5; rw [← Ny101.out] at ho5)); have HO103 := Aside0.mk (Kd.bz_ ho5 (ad_ (bz HB.out))); replace HB := Aside0.mk (ac_ (bz HB.out) hb); clear hb ho5))
 (try simp only [Act.put, lsa_, ls0_, ls1_])
 go_loopg [4] k (fun kq v4 w' => ∃ (x3_1 : List (S38)) (x4_1 : Int), v4 = .int .i64 x4_1 ∧ Aside0 (aX_.l0 kq l0 x3_1 x4_1 = some r) ∧ Aside0 (kq ≤ k) ∧ Aside0 (Kd.R k38 38 w' w.heap.size (fun _ => True) v102 x3_1) ∧ Aside0 (Below w.heap.size w w'))
 case atStart => exact ⟨(y101), (0), (by first | rfl | (simp; done) | (simp [*]; done)), H', ⟨Nat.le_refl _⟩, ⟨rz HO103.out⟩, ⟨bz HB.out⟩⟩
 case round =>
  clear H'
  obtain ⟨x3_1, x4_1, rfl, HA, HK1, HO_3, HB⟩ := hrel
  cases gk with
  | zero => exact absurd HA.out (by simp [aX_.l0])
  | succ k1 =>
   have H := HA.out
   clear HA
   simp only [aX_.l0] at H
   by_cases c6 : x4_1 < (l0.length : Int)
   rotate_left
   ·rw [if_neg c6] at H
    have c6b0 : decide (x4_1 < (l0.length : Int)) = false := decide_eq_false c6
    clear c6
    obtain rfl := Option.some.inj H
    go_wp2
    go_ret
    exact ⟨_, by first | rfl | (simp [*, ai_, ah_] <;> rfl), rz HO_3.out, bz HB.out⟩
   rw [if_pos c6] at H
   have c6b0 : decide (x4_1 < (l0.length : Int)) = true := decide_eq_true c6
   clear c6
   by_cases c7 : 0 ≤ x4_1
   rotate_left
   ·rw [if_neg c7] at H
    exact absurd H (by simp)
   rw [if_pos c7] at H
   have c7b0 : decide (0 ≤ x4_1) = true := decide_eq_true c7
   clear c7
   replace H := Option.bind_eq_some_iff.mp H
   obtain ⟨⟨t105, t106, t107⟩, A80, H⟩ := H
   (try dsimp only at H)
   have A8 := Aside0.mk A80
   clear A80
   by_cases c9 : x4_1 < (x3_1.length : Int)
   rotate_left
   ·rw [if_neg c9] at H
    exact absurd H (by simp)
   rw [if_pos c9] at H
   have c9b0 : decide (x4_1 < (x3_1.length : Int)) = true := decide_eq_true c9
   clear c9
   obtain ⟨y108, hy108⟩ : ∃ y_ : List (S38), y_ = (x3_1.set (x4_1 : Int).toNat (⟨t105, t106, t107⟩ : S38)) := ⟨_, rfl⟩
   replace H : (aX_.l0 k1 l0 y108 (wrap64 (x4_1 + 1))) = some r := by first | (rw [hy108]; with_reducible exact H) | (have H2_ := (Option.bind_some _ _).symm.trans H; rw [hy108]; with_reducible exact H2_) | (have H2_ := (Option.bind_some _ _).symm.trans H; with_reducible exact H2_) | with_reducible exact H | (rw [hy108]; exact H) | exact H
   have Ny108 := Aside0.mk hy108
   clear hy108
   have H' := Aside0.mk H
   clear H
   have p104 : 0 ≤ (x4_1 : Int) := of_decide_eq_true (by assumption)
   have q104 : x4_1 < (l0.length : Int) := of_decide_eq_true (by assumption)
   obtain ⟨ad104, e104, hx104_0, hx104_1, hx104_2⟩ := at_T36 HR0.out x4_1 p104 q104
   cases e104
   replace hx104_0 := bu_ HB.out hx104_0
   replace hx104_1 := bu_ HB.out hx104_1
   replace hx104_2 := bu_ HB.out hx104_2
   replace p104 := eq_true p104
   replace q104 := eq_true q104
   go_wp2_with (first | ((with_reducible refine af_ (f := 16) rfl ?_); refine aJ_ (some 20) rfl rfl Tryz.func16 (by kernel_rfl) rfl #[.agg #[.string ((cF_ l0 x4_1).f0), .string ((cF_ l0 x4_1).f1), .string ((cF_ l0 x4_1).f2)]] rfl (by first | rfl | (simp only [lma_, lmc_, lmn_]; first | done | rfl)) ?_; (with_reducible refine (cQ_.calls ((cF_ l0 x4_1).f0) ((cF_ l0 x4_1).f1) ((cF_ l0 x4_1).f2) t105 t106 t107 _ A8.out).mono ?_); rintro e w11 ⟨rfl, hb⟩; refine ⟨_, rfl, ?_⟩; replace HO_3 := Aside0.mk (Kd.aV_ (rz HO_3.out) hb); replace HB := Aside0.mk (ac_ (bz HB.out) hb); (try clear hb); have p10 : 0 ≤ (x4_1 : Int) := of_decide_eq_true (by assumption); have q10 : (x4_1 : Int) < ((x3_1.length : Int) : Int) := of_decide_eq_true (by assumption); obtain ⟨go10, co10, eo10, gb10, gl10, cl10, HG10⟩ := Kd.R_form HO_3.out (by omega); (first | cases eo10 | (injection eo10 with ea_ en_ ec_; (first | subst ea_ | (injection ea_ with ea_; subst ea_)); subst ec_; clear en_)); have GB10 := Aside0.mk gb10; have GG10 := Aside0.mk HG10; clear gb10 gl10 HG10; obtain ⟨ce10, hcl10, hM10, hcc10, hfr10⟩ := Kd.cU_ HO_3.out z38 (x4_1 : Int) p10 q10; obtain rfl := db_ hM10; have hx10_0 : w11.cell? ⟨go10, (x4_1 : Int).toNat * 3, none⟩ = some (.string ((ag_ x3_1 x4_1).f0)) := hcc10 0 _ rfl; have hx10_1 : w11.cell? ⟨go10, (x4_1 : Int).toNat * 3 + 1, none⟩ = some (.string ((ag_ x3_1 x4_1).f1)) := hcc10 1 _ rfl; have hx10_2 : w11.cell? ⟨go10, (x4_1 : Int).toNat * 3 + 2, none⟩ = some (.string ((ag_ x3_1 x4_1).f2)) := hcc10 2 _ rfl; have hf10_0 : w11.frozen? ⟨go10, (x4_1 : Int).toNat * 3, none⟩ = false := hfr10 0; have hf10_1 : w11.frozen? ⟨go10, (x4_1 : Int).toNat * 3 + 1, none⟩ = false := hfr10 1; have hf10_2 : w11.frozen? ⟨go10, (x4_1 : Int).toNat * 3 + 2, none⟩ = false := hfr10 2; clear hcl10 hcc10 hfr10 hM10; replace p10 := eq_true p10; replace q10 := eq_true q10; have HX12 := Aside0.mk (show Kd.R k38 38 w11 w.heap.size (fun _ => True) (.slice (some ⟨go10, 0, none⟩) x3_1.length co10) x3_1 from (rz HO_3.out)); obtain ⟨ce12, hcl12, hM12, hcc12, hfr12⟩ := Kd.cU_ HX12.out z38 (x4_1 : Int) (of_decide_eq_true (by assumption)) (by have h_ : (x4_1 : Int) < ((x3_1.length : Int) : Int) := of_decide_eq_true (by assumption); first | exact h_ | (have e_ := (Kd.av_ HO_3.out).1; omega) | simpa using h_); obtain rfl := db_ hM12; have HP12 := Kd.R_seg HX12.out (x4_1 : Int) (of_decide_eq_true (by assumption)) (by have h_ : (x4_1 : Int) < ((x3_1.length : Int) : Int) := of_decide_eq_true (by assumption); first | exact h_ | (have e_ := (Kd.av_ HO_3.out).1; omega) | simpa using h_) (seg := [.string t105, .string t106, .string t107]) (j := 0) hcl12 hcc12 (show 3 ≤ 3 from by decide) (x' := (⟨t105, t106, t107⟩ : S38)) (k38_mkM _ _ _ (⟨t105, t106, t107⟩ : S38) ) (fun _ hk => hk); have hx12_0 := hcc12 0 _ rfl; (try simp only [show (k38).sz = 3 from rfl, Nat.mul_one, Nat.add_zero] at hx12_0); have hf12_0 := hfr12 0; (try simp only [show (k38).sz = 3 from rfl, Nat.mul_one, Nat.add_zero] at hf12_0); have hx12_1 := hcc12 1 _ rfl; (try simp only [show (k38).sz = 3 from rfl, Nat.mul_one, Nat.add_zero] at hx12_1); have hf12_1 := hfr12 1; (try simp only [show (k38).sz = 3 from rfl, Nat.mul_one, Nat.add_zero] at hf12_1); have hx12_2 := hcc12 2 _ rfl; (try simp only [show (k38).sz = 3 from rfl, Nat.mul_one, Nat.add_zero] at hx12_2); have hf12_2 := hfr12 2; (try simp only [show (k38).sz = 3 from rfl, Nat.mul_one, Nat.add_zero] at hf12_2); clear hcl12 hcc12 hfr12 hM12) | ((with_reducible refine bJ_ (t := 38) (p := 21) rfl ?_); refine by_ (t := 38) (p := 21) (v := ?vo_w13) (w1 := (((w11.setCell ⟨go10, (x4_1 : Int).toNat * 3, none⟩ (.string t105)).setCell ⟨go10, (x4_1 : Int).toNat * 3 + 1, none⟩ (.string t106)).setCell ⟨go10, (x4_1 : Int).toNat * 3 + 2, none⟩ (.string t107))) ?hg ?ho ?hn ?hr ?_; (case ho => rfl); (case hg => rfl); (case hn => rfl); (case hr => (go_simp; try rfl)); intro w13 hw; have hg : w11.grownBy w13 (some go10) := (by rw [hw]; exact HP12.2); have hp_ : Kd.R k38 38 w13 w.heap.size (fun _ => True) (.slice (some ⟨go10, 0, none⟩) x3_1.length co10) y108 := (by rw [hw, Ny108.out]; exact HP12.1); clear HP12; replace HO_3 := Aside0.mk (hp_); replace HB := Aside0.mk ((by rw [hw]; exact aa_ (aa_ (aa_ (HB.out) GB10.out) GB10.out) GB10.out : Below w.heap.size w w13)); clear hg hw hp_))
   go_roundg k1
   case measure => have := HK1.out; omega
   case rel => exact ⟨(y108), (wrap64 (x4_1 + 1)), (by first | rfl | (simp; done) | (simp [*]; done)), H', ⟨by have := HK1.out; omega⟩, ⟨rz HO_3.out⟩, ⟨bz HB.out⟩⟩
mutual
def au_.j0 : Nat → ByteArray → Bool → Option (Bool)
 | 0, _, _ => none
 | k + 1, x0, x21 => if x21 = true then (some false) else (au_.l0 k x0 0)
def au_.l0 : Nat → ByteArray → Int → Option (Bool)
 | 0, _, _ => none
 | k + 1, x0, x3 => if x3 < (x0.size : Int) then (if 0 ≤ x3 then (if (bt x0 x3) < 97 then (if (bt x0 x3) < 48 then (some false) else (if (bt x0 x3) > 57 then (some false) else (au_.l0 k x0 (wrap64 (x3 + 1))))) else (if (bt x0 x3) > 122 then (if (bt x0 x3) < 48 then (some false) else (if (bt x0 x3) > 57 then (some false) else (au_.l0 k x0 (wrap64 (x3 + 1))))) else (au_.l0 k x0 (wrap64 (x3 + 1))))) else (none)) else (some true)
end
def au_.f (k : Nat) (a0 : ByteArray) : Option (Bool) := if (a0.size : Int) < 1 then (au_.j0 k a0 true) else (if (a0.size : Int) > 10 then (au_.j0 k a0 true) else (if 0 < (a0.size : Int) then (if (bt a0 0) < 97 then (au_.j0 k a0 true) else (au_.j0 k a0 (decide ((bt a0 0) > 122)))) else (none)))
set_option maxHeartbeats 8000000 in
set_option maxRecDepth 100000 in
theorem au_.calls (k : Nat) (a0 : ByteArray) (r : Bool) (w : World) (h : au_.f k a0 = some r) :
  Calls Tryz.prog 47 #[.string a0] w fun e w' => e = .returned (.bool r) ∧ ap_ w w' := by
 have H : (if (a0.size : Int) < 1 then (au_.j0 k a0 true) else (if (a0.size : Int) > 10 then (au_.j0 k a0 true) else (if 0 < (a0.size : Int) then (if (bt a0 0) < 97 then (au_.j0 k a0 true) else (au_.j0 k a0 (decide ((bt a0 0) > 122)))) else (none)))) = some r := h
 clear h
 have HC2 := Aside0.mk H
 clear H
 go_enter Tryz.func47, Tryz.ntmps47
 go_upto_region 1 with (fail)
 go_cut [21] (fun v21 wc => ∃ (kq : Nat) (x21_1 : Bool), v21 = .bool x21_1 ∧ Aside0 (au_.j0 kq a0 x21_1 = some r) ∧ Aside0 (kq ≤ k) ∧ ap_ w wc)
 case first =>
  have H := HC2.out
  clear HC2
  by_cases c3 : (a0.size : Int) < 1
  rotate_left
  ·rw [if_neg c3] at H
   have c3b0 : decide ((a0.size : Int) < 1) = false := decide_eq_false c3
   have c3b1 : decide (a0.size < 1) = false := decide_eq_false (by omega)
   clear c3
   (first | rw [c3b0] | (simp only [i64_w, i32_w]; rw [c3b0]) | (simp only [c3b1, Bool.not_true, Bool.not_false]) | (simp only [c3b0, Bool.not_true, Bool.not_false]) | skip)
   by_cases c4 : (a0.size : Int) > 10
   rotate_left
   ·rw [if_neg c4] at H
    have c4b0 : decide (10 < (a0.size : Int)) = false := decide_eq_false c4
    have c4b1 : decide (10 < a0.size) = false := decide_eq_false (by omega)
    clear c4
    by_cases c5 : 0 < (a0.size : Int)
    rotate_left
    ·rw [if_neg c5] at H
     exact absurd H (by simp)
    rw [if_pos c5] at H
    have c5b0 : decide (0 < (a0.size : Int)) = true := decide_eq_true c5
    have c5b1 : decide (0 < a0.size) = true := decide_eq_true (by omega)
    clear c5
    by_cases c7 : (bt a0 0) < 97
    rotate_left
    ·rw [if_neg c7] at H
     have c7b0 : decide ((bt a0 0) < 97) = false := decide_eq_false c7
     clear c7
     have H' := Aside0.mk H
     clear H
     have p6 : 0 ≤ (0 : Int) := (by omega)
     have q6 : 0 < a0.size := (by have : (0 : Int) < (a0.size : Int) := of_decide_eq_true (by assumption); omega)
     have hx6 : ∀ h : 0 < a0.size, ((a0[0]'h).toNat : Int) = bt a0 0 := bt_at a0 0
     clear p6
     have qi6 : (0 < (a0.size : Int)) = True := eq_true (of_decide_eq_true (by assumption))
     replace q6 := eq_true q6
     have p8 : 0 ≤ (0 : Int) := (by omega)
     have q8 : 0 < a0.size := (by have : (0 : Int) < (a0.size : Int) := of_decide_eq_true (by assumption); omega)
     have hx8 : ∀ h : 0 < a0.size, ((a0[0]'h).toNat : Int) = bt a0 0 := bt_at a0 0
     clear p8
     have qi8 : (0 < (a0.size : Int)) = True := eq_true (of_decide_eq_true (by assumption))
     replace q8 := eq_true q8
     go_wp2
     go_meet
     case rel => exact ⟨_, (decide ((bt a0 0) > 122)), (by first | rfl | (simp; done) | (simp [*]; done)), H', ⟨by first | omega | exact Nat.le_refl _⟩, by repeat (first | exact ap_.refl _ | apply ap_.step)⟩
    rw [if_pos c7] at H
    have c7b0 : decide ((bt a0 0) < 97) = true := decide_eq_true c7
    clear c7
    have H' := Aside0.mk H
    clear H
    have p6 : 0 ≤ (0 : Int) := (by omega)
    have q6 : 0 < a0.size := (by have : (0 : Int) < (a0.size : Int) := of_decide_eq_true (by assumption); omega)
    have hx6 : ∀ h : 0 < a0.size, ((a0[0]'h).toNat : Int) = bt a0 0 := bt_at a0 0
    clear p6
    have qi6 : (0 < (a0.size : Int)) = True := eq_true (of_decide_eq_true (by assumption))
    replace q6 := eq_true q6
    go_wp2
    go_meet
    case rel => exact ⟨_, (true), (by first | rfl | (simp; done) | (simp [*]; done)), H', ⟨by first | omega | exact Nat.le_refl _⟩, by repeat (first | exact ap_.refl _ | apply ap_.step)⟩
   rw [if_pos c4] at H
   have c4b0 : decide (10 < (a0.size : Int)) = true := decide_eq_true c4
   have c4b1 : decide (10 < a0.size) = true := decide_eq_true (by omega)
   clear c4
   have H' := Aside0.mk H
   clear H
   go_wp2
   go_meet
   case rel => exact ⟨_, (true), (by first | rfl | (simp; done) | (simp [*]; done)), H', ⟨by first | omega | exact Nat.le_refl _⟩, by repeat (first | exact ap_.refl _ | apply ap_.step)⟩
  rw [if_pos c3] at H
  have c3b0 : decide ((a0.size : Int) < 1) = true := decide_eq_true c3
  have c3b1 : decide (a0.size < 1) = true := decide_eq_true (by omega)
  clear c3
  (first | rw [c3b0] | (simp only [i64_w, i32_w]; rw [c3b0]) | (simp only [c3b1, Bool.not_true, Bool.not_false]) | (simp only [c3b0, Bool.not_true, Bool.not_false]) | skip)
  have H' := Aside0.mk H
  clear H
  go_wp2
  go_meet
  case rel => exact ⟨_, (true), (by first | rfl | (simp; done) | (simp [*]; done)), H', ⟨by first | omega | exact Nat.le_refl _⟩, by repeat (first | exact ap_.refl _ | apply ap_.step)⟩
 case rest =>
  clear HC2
  obtain ⟨kq, x21_1, rfl, HA, HJ1, ⟨mc1, rfl⟩⟩ := hcut
  cases kq with
  | zero => exact absurd HA.out (by simp [au_.j0])
  | succ kj1 =>
   have H := HA.out
   clear HA
   simp only [au_.j0] at H
   by_cases c9 : x21_1 = true
   rotate_left
   ·replace c9 := Bool.eq_false_iff.mpr c9
    subst c9
    have H1 : (au_.l0 kj1 a0 0) = some r := by rw [if_neg (show ¬ (false = true) by decide)] at H; exact H
    clear H
    have H := H1
    clear H1
    have H' := Aside0.mk H
    clear H
    go_wp2
    (try simp only [Act.put, lsa_, ls0_, ls1_])
    go_loopg [3] kj1 (fun kq v3 w' => ∃ (x3_2 : Int), v3 = .int .i64 x3_2 ∧ Aside0 (au_.l0 kq a0 x3_2 = some r) ∧ Aside0 (kq ≤ kj1) ∧ ap_ w w')
    case atStart => exact ⟨(0), (by first | rfl | (simp; done) | (simp [*]; done)), H', ⟨Nat.le_refl _⟩, by repeat (first | exact ap_.refl _ | apply ap_.step)⟩
    case round =>
     clear H'
     obtain ⟨x3_2, rfl, HA, HK2, ⟨m2, rfl⟩⟩ := hrel
     cases gk with
     | zero => exact absurd HA.out (by simp [au_.l0])
     | succ k2 =>
      have H := HA.out
      clear HA
      simp only [au_.l0] at H
      by_cases c10 : x3_2 < (a0.size : Int)
      rotate_left
      ·rw [if_neg c10] at H
       have c10b0 : decide (x3_2 < (a0.size : Int)) = false := decide_eq_false c10
       clear c10
       obtain rfl := Option.some.inj H
       go_wp2
       go_ret
       exact ⟨by first | rfl | (simp; done) | (simp [*]; done), by repeat (first | exact ap_.refl _ | apply ap_.step)⟩
      rw [if_pos c10] at H
      have c10b0 : decide (x3_2 < (a0.size : Int)) = true := decide_eq_true c10
      clear c10
      by_cases c11 : 0 ≤ x3_2
      rotate_left
      ·rw [if_neg c11] at H
       exact absurd H (by simp)
      rw [if_pos c11] at H
      have c11b0 : decide (0 ≤ x3_2) = true := decide_eq_true c11
      clear c11
      by_cases c13 : (bt a0 x3_2) < 97
      rotate_left
      ·rw [if_neg c13] at H
       have c13b0 : decide ((bt a0 x3_2) < 97) = false := decide_eq_false c13
       clear c13
       by_cases c19 : (bt a0 x3_2) > 122
       rotate_left
       ·rw [if_neg c19] at H
        have c19b0 : decide (122 < (bt a0 x3_2)) = false := decide_eq_false c19
        clear c19
        have H' := Aside0.mk H
        clear H
        have p12 : 0 ≤ (x3_2 : Int) := of_decide_eq_true (by assumption)
        have q12 : x3_2 < (a0.size : Int) := of_decide_eq_true (by assumption)
        have hx12 := bt_at a0 x3_2
        replace p12 := eq_true p12
        replace q12 := eq_true q12
        have p18 : 0 ≤ (x3_2 : Int) := of_decide_eq_true (by assumption)
        have q18 : x3_2 < (a0.size : Int) := of_decide_eq_true (by assumption)
        have hx18 := bt_at a0 x3_2
        replace p18 := eq_true p18
        replace q18 := eq_true q18
        go_wp2
        go_roundg k2
        case measure => have := HJ1.out; have := HK2.out; omega
        case rel => exact ⟨(wrap64 (x3_2 + 1)), (by first | rfl | (simp; done) | (simp [*]; done)), H', ⟨by have := HJ1.out; have := HK2.out; omega⟩, by repeat (first | exact ap_.refl _ | apply ap_.step)⟩
       rw [if_pos c19] at H
       have c19b0 : decide (122 < (bt a0 x3_2)) = true := decide_eq_true c19
       clear c19
       by_cases c21 : (bt a0 x3_2) < 48
       rotate_left
       ·rw [if_neg c21] at H
        have c21b0 : decide ((bt a0 x3_2) < 48) = false := decide_eq_false c21
        clear c21
        by_cases c23 : (bt a0 x3_2) > 57
        rotate_left
        ·rw [if_neg c23] at H
         have c23b0 : decide (57 < (bt a0 x3_2)) = false := decide_eq_false c23
         clear c23
         have H' := Aside0.mk H
         clear H
         have p12 : 0 ≤ (x3_2 : Int) := of_decide_eq_true (by assumption)
         have q12 : x3_2 < (a0.size : Int) := of_decide_eq_true (by assumption)
         have hx12 := bt_at a0 x3_2
         replace p12 := eq_true p12
         replace q12 := eq_true q12
         have p18 : 0 ≤ (x3_2 : Int) := of_decide_eq_true (by assumption)
         have q18 : x3_2 < (a0.size : Int) := of_decide_eq_true (by assumption)
         have hx18 := bt_at a0 x3_2
         replace p18 := eq_true p18
         replace q18 := eq_true q18
         have p20 : 0 ≤ (x3_2 : Int) := of_decide_eq_true (by assumption)
         have q20 : x3_2 < (a0.size : Int) := of_decide_eq_true (by assumption)
         have hx20 := bt_at a0 x3_2
         replace p20 := eq_true p20
         replace q20 := eq_true q20
         have p22 : 0 ≤ (x3_2 : Int) := of_decide_eq_true (by assumption)
         have q22 : x3_2 < (a0.size : Int) := of_decide_eq_true (by assumption)
         have hx22 := bt_at a0 x3_2
         replace p22 := eq_true p22
         replace q22 := eq_true q22
         go_wp2
         go_roundg k2
         case measure => have := HJ1.out; have := HK2.out; omega
         case rel => exact ⟨(wrap64 (x3_2 + 1)), (by first | rfl | (simp; done) | (simp [*]; done)), H', ⟨by have := HJ1.out; have := HK2.out; omega⟩, by repeat (first | exact ap_.refl _ | apply ap_.step)⟩
        rw [if_pos c23] at H
        have c23b0 : decide (57 < (bt a0 x3_2)) = true := decide_eq_true c23
        clear c23
        obtain rfl := Option.some.inj H
        have p12 : 0 ≤ (x3_2 : Int) := of_decide_eq_true (by assumption)
        have q12 : x3_2 < (a0.size : Int) := of_decide_eq_true (by assumption)
        have hx12 := bt_at a0 x3_2
        replace p12 := eq_true p12
        replace q12 := eq_true q12
        have p18 : 0 ≤ (x3_2 : Int) := of_decide_eq_true (by assumption)
        have q18 : x3_2 < (a0.size : Int) := of_decide_eq_true (by assumption)
        have hx18 := bt_at a0 x3_2
        replace p18 := eq_true p18
        replace q18 := eq_true q18
        have p20 : 0 ≤ (x3_2 : Int) := of_decide_eq_true (by assumption)
        have q20 : x3_2 < (a0.size : Int) := of_decide_eq_true (by assumption)
        have hx20 := bt_at a0 x3_2
        replace p20 := eq_true p20
        replace q20 := eq_true q20
        have p22 : 0 ≤ (x3_2 : Int) := of_decide_eq_true (by assumption)
        have q22 : x3_2 < (a0.size : Int) := of_decide_eq_true (by assumption)
        have hx22 := bt_at a0 x3_2
        replace p22 := eq_true p22
        replace q22 := eq_true q22
        go_wp2
        go_ret
        exact ⟨by first | rfl | (simp; done) | (simp [*]; done), by repeat (first | exact ap_.refl _ | apply ap_.step)⟩
       rw [if_pos c21] at H
       have c21b0 : decide ((bt a0 x3_2) < 48) = true := decide_eq_true c21
       clear c21
       obtain rfl := Option.some.inj H
       have p12 : 0 ≤ (x3_2 : Int) := of_decide_eq_true (by assumption)
       have q12 : x3_2 < (a0.size : Int) := of_decide_eq_true (by assumption)
       have hx12 := bt_at a0 x3_2
       replace p12 := eq_true p12
       replace q12 := eq_true q12
       have p18 : 0 ≤ (x3_2 : Int) := of_decide_eq_true (by assumption)
       have q18 : x3_2 < (a0.size : Int) := of_decide_eq_true (by assumption)
       have hx18 := bt_at a0 x3_2
       replace p18 := eq_true p18
       replace q18 := eq_true q18
       have p20 : 0 ≤ (x3_2 : Int) := of_decide_eq_true (by assumption)
       have q20 : x3_2 < (a0.size : Int) := of_decide_eq_true (by assumption)
       have hx20 := bt_at a0 x3_2
       replace p20 := eq_true p20
       replace q20 := eq_true q20
       go_wp2
       go_ret
       exact ⟨by first | rfl | (simp; done) | (simp [*]; done), by repeat (first | exact ap_.refl _ | apply ap_.step)⟩
      rw [if_pos c13] at H
      have c13b0 : decide ((bt a0 x3_2) < 97) = true := decide_eq_true c13
      clear c13
      by_cases c15 : (bt a0 x3_2) < 48
      rotate_left
      ·rw [if_neg c15] at H
       have c15b0 : decide ((bt a0 x3_2) < 48) = false := decide_eq_false c15
       clear c15
       by_cases c17 : (bt a0 x3_2) > 57
       rotate_left
       ·rw [if_neg c17] at H
        have c17b0 : decide (57 < (bt a0 x3_2)) = false := decide_eq_false c17
        clear c17
        have H' := Aside0.mk H
        clear H
        have p12 : 0 ≤ (x3_2 : Int) := of_decide_eq_true (by assumption)
        have q12 : x3_2 < (a0.size : Int) := of_decide_eq_true (by assumption)
        have hx12 := bt_at a0 x3_2
        replace p12 := eq_true p12
        replace q12 := eq_true q12
        have p14 : 0 ≤ (x3_2 : Int) := of_decide_eq_true (by assumption)
        have q14 : x3_2 < (a0.size : Int) := of_decide_eq_true (by assumption)
        have hx14 := bt_at a0 x3_2
        replace p14 := eq_true p14
        replace q14 := eq_true q14
        have p16 : 0 ≤ (x3_2 : Int) := of_decide_eq_true (by assumption)
        have q16 : x3_2 < (a0.size : Int) := of_decide_eq_true (by assumption)
        have hx16 := bt_at a0 x3_2
        replace p16 := eq_true p16
        replace q16 := eq_true q16
        go_wp2
        go_roundg k2
        case measure => have := HJ1.out; have := HK2.out; omega
        case rel => exact ⟨(wrap64 (x3_2 + 1)), (by first | rfl | (simp; done) | (simp [*]; done)), H', ⟨by have := HJ1.out; have := HK2.out; omega⟩, by repeat (first | exact ap_.refl _ | apply ap_.step)⟩
       rw [if_pos c17] at H
       have c17b0 : decide (57 < (bt a0 x3_2)) = true := decide_eq_true c17
       clear c17
       obtain rfl := Option.some.inj H
       have p12 : 0 ≤ (x3_2 : Int) := of_decide_eq_true (by assumption)
       have q12 : x3_2 < (a0.size : Int) := of_decide_eq_true (by assumption)
       have hx12 := bt_at a0 x3_2
       replace p12 := eq_true p12
       replace q12 := eq_true q12
       have p14 : 0 ≤ (x3_2 : Int) := of_decide_eq_true (by assumption)
       have q14 : x3_2 < (a0.size : Int) := of_decide_eq_true (by assumption)
       have hx14 := bt_at a0 x3_2
       replace p14 := eq_true p14
       replace q14 := eq_true q14
       have p16 : 0 ≤ (x3_2 : Int) := of_decide_eq_true (by assumption)
       have q16 : x3_2 < (a0.size : Int) := of_decide_eq_true (by assumption)
       have hx16 := bt_at a0 x3_2
       replace p16 := eq_true p16
       replace q16 := eq_true q16
       go_wp2
       go_ret
       exact ⟨by first | rfl | (simp; done) | (simp [*]; done), by repeat (first | exact ap_.refl _ | apply ap_.step)⟩
      rw [if_pos c15] at H
      have c15b0 : decide ((bt a0 x3_2) < 48) = true := decide_eq_true c15
      clear c15
      obtain rfl := Option.some.inj H
      have p12 : 0 ≤ (x3_2 : Int) := of_decide_eq_true (by assumption)
      have q12 : x3_2 < (a0.size : Int) := of_decide_eq_true (by assumption)
      have hx12 := bt_at a0 x3_2
      replace p12 := eq_true p12
      replace q12 := eq_true q12
      have p14 : 0 ≤ (x3_2 : Int) := of_decide_eq_true (by assumption)
      have q14 : x3_2 < (a0.size : Int) := of_decide_eq_true (by assumption)
      have hx14 := bt_at a0 x3_2
      replace p14 := eq_true p14
      replace q14 := eq_true q14
      go_wp2
      go_ret
      exact ⟨by first | rfl | (simp; done) | (simp [*]; done), by repeat (first | exact ap_.refl _ | apply ap_.step)⟩
   subst c9
   have H1 : (some false) = some r := by rw [if_pos rfl] at H; exact H
   clear H
   have H := H1
   clear H1
   obtain rfl := Option.some.inj H
   go_wp2
   go_ret
   exact ⟨by first | rfl | (simp; done) | (simp [*]; done), by repeat (first | exact ap_.refl _ | apply ap_.step)⟩
end Go.Proofs.YtckboiphlhhckaaGreatDoor.Q
namespace Go.Proofs
open Go.Shelf
def Tryz.lays156_ren : Go.Shelf.Ren := ⟨fun | 156 => 59 | 165 => 78 | 166 => 79 | 169 => 80 | 240 => 90 | 241 => 91 | 276 => 101 | 277 => 102 | n => n, fun | 31 => 54 | 9 => 9 | 3 => 3 | 4 => 4 | 0 => 0 | 20 => 20 | 72 => 109 | 76 => 113 | 70 => 107 | 37 => 77 | 75 => 112 | 127 => 123 | 164 => 132 | 5 => 5 | 80 => 115 | n => n, fun | n => n⟩
theorem Tryz.lays156 : Go.Proofs.Lays.n156 Tryz.prog Tryz.lays156_ren := {
 mixed := by kernel_rfl
 f156 := Tryz.func59.trans (congrArg some (by kernel_rfl))
 f165 := Tryz.func78.trans (congrArg some (by kernel_rfl))
 f166 := Tryz.func79.trans (congrArg some (by kernel_rfl))
 f169 := Tryz.func80.trans (congrArg some (by kernel_rfl))
 f240 := Tryz.func90.trans (congrArg some (by kernel_rfl))
 f241 := Tryz.func91.trans (congrArg some (by kernel_rfl))
 f276 := Tryz.func101.trans (congrArg some (by kernel_rfl))
 f277 := Tryz.func102.trans (congrArg some (by kernel_rfl))
 t0 := Tryz.underlying0
 a0 := Tryz.isAgg0
 z0 := Tryz.sizeOf0
 v0 := Tryz.zeroValue0
 t3 := Tryz.underlying3
 a3 := Tryz.isAgg3
 z3 := Tryz.sizeOf3
 v3 := Tryz.zeroValue3
 t4 := Tryz.underlying4
 a4 := Tryz.isAgg4
 z4 := Tryz.sizeOf4
 v4 := Tryz.zeroValue4
 t9 := Tryz.underlying9
 a9 := Tryz.isAgg9
 z9 := Tryz.sizeOf9
 v9 := Tryz.zeroValue9
 t20 := Tryz.underlying20
 a20 := Tryz.isAgg20
 z20 := Tryz.sizeOf20
 v20 := Tryz.zeroValue20
 t31 := Tryz.underlying54
 a31 := Tryz.isAgg54
 z31 := Tryz.sizeOf54
 v31 := Tryz.zeroValue54
 t37 := Tryz.underlying77
 a37 := Tryz.isAgg77
 z37 := Tryz.sizeOf77
 v37 := Tryz.zeroValue77
 t70 := Tryz.underlying107
 a70 := Tryz.isAgg107
 z70 := Tryz.sizeOf107
 v70 := Tryz.zeroValue107
 t72 := Tryz.underlying109
 a72 := Tryz.isAgg109
 z72 := Tryz.sizeOf109
 v72 := Tryz.zeroValue109
 t75 := Tryz.underlying112
 a75 := Tryz.isAgg112
 z75 := Tryz.sizeOf112
 v75 := Tryz.zeroValue112
 t76 := Tryz.underlying113
 a76 := Tryz.isAgg113
 z76 := Tryz.sizeOf113
 v76 := Tryz.zeroValue113
 t127 := Tryz.underlying123
 a127 := Tryz.isAgg123
 z127 := Tryz.sizeOf123
 v127 := Tryz.zeroValue123
 t164 := Tryz.underlying132
 a164 := Tryz.isAgg132
 z164 := Tryz.sizeOf132
 v164 := Tryz.zeroValue132 }
theorem Tryz.Builder_Extra_156 : Builder.Extra Tryz.prog Tryz.lays156_ren := {
 sizeBuilder := by kernel_rfl
 liesBuilder := by kernel_rfl
 t5 := Tryz.underlying5
 a5 := Tryz.isAgg5
 z5 := Tryz.sizeOf5
 v5 := Tryz.zeroValue5
 infoByte := by kernel_rfl
 cellsByte := by kernel_rfl
 sizeByte := by kernel_rfl
 neB5 := by decide }
open Go.RowKit in
theorem Tryz.strings_Join_none (a : Option Addr) (c : Nat) (sep : ByteArray) (w : World) :
  Calls Tryz.prog 59 #[.slice a 0 c, .string sep] w fun e w' => e = .returned (.string ⟨#[]⟩) ∧ w' = w := Any.strings_Join_none Tryz.lays156 Tryz.Builder_Extra_156 a c sep w
open Go.RowKit in
theorem Tryz.strings_Join (bk o c : Nat) (xs : List ByteArray) (sep : ByteArray) (w : World) (hcells : ∀ (j : Nat) x, xs[j]? = some x → w.cell? ⟨bk, o + j, none⟩ = some (.string x)) (hbk : bk < w.heap.size) (hN : xs.length ≤ 140737488355328) (hcap : xs.length ≤ c) (hlen : (Lib.join (xs.map (·.data.toList)) sep.data.toList).length ≤ 140737488355328) :
  Calls Tryz.prog 59 #[.slice (some ⟨bk, o, none⟩) xs.length c, .string sep] w fun e w' => e = .returned (.string ⟨(Lib.join (xs.map (·.data.toList)) sep.data.toList).toArray⟩) ∧ Below w.heap.size w w' := Any.strings_Join Tryz.lays156 Tryz.Builder_Extra_156 bk o c xs sep w hcells hbk hN hcap hlen
def Tryz.lays106_ren : Go.Shelf.Ren := ⟨fun | 106 => 49 | 213 => 66 | 265 => 83 | n => n, fun | 9 => 9 | 3 => 3 | n => n, fun | n => n⟩
theorem Tryz.lays106 : Go.Proofs.Lays.n106 Tryz.prog Tryz.lays106_ren := {
 mixed := by kernel_rfl
 f106 := Tryz.func49.trans (congrArg some (by kernel_rfl))
 f213 := Tryz.func66.trans (congrArg some (by kernel_rfl))
 f265 := Tryz.func83.trans (congrArg some (by kernel_rfl))
 t3 := Tryz.underlying3
 a3 := Tryz.isAgg3
 z3 := Tryz.sizeOf3
 v3 := Tryz.zeroValue3
 t9 := Tryz.underlying9
 a9 := Tryz.isAgg9
 z9 := Tryz.sizeOf9
 v9 := Tryz.zeroValue9 }
open Go.RowKit in
theorem Tryz.strings_Compare (a b : ByteArray) (w : World) :
  Calls Tryz.prog 49 #[.string a, .string b] w fun e w' => e = .returned (.int .i64 (Lib.compareBytes a.data.toList b.data.toList)) ∧ w' = w := Any.strings_Compare Tryz.lays106 a b w
def Tryz.laysM173_ren : Go.Shelf.Ren := ⟨fun | 173 => 70 | 246 => 87 | 283 => 97 | 284 => 98 | 285 => 99 | 286 => 100 | 129 => 106 | 317 => 105 | 318 => 107 | 319 => 108 | 320 => 109 | 337 => 110 | 338 => 111 | n => n, fun | 2 => 2 | 3 => 3 | 9 => 9 | 4 => 4 | 171 => 126 | 0 => 0 | 53 => 127 | 37 => 77 | 5 => 5 | 173 => 130 | 212 => 143 | 51 => 135 | 20 => 20 | 213 => 144 | 46 => 125 | 232 => 148 | 233 => 149 | n => n, fun | 17 => 3 | 18 => 4 | 19 => 5 | n => n⟩
theorem Tryz.laysM173 : Go.Proofs.LaysM.n173 Tryz.prog Tryz.laysM173_ren := {
 mixed := by kernel_rfl
 f129 := Tryz.func106.trans (congrArg some (by kernel_rfl))
 f173 := Tryz.func70.trans (congrArg some (by kernel_rfl))
 f246 := Tryz.func87.trans (congrArg some (by kernel_rfl))
 f283 := Tryz.func97.trans (congrArg some (by kernel_rfl))
 f284 := Tryz.func98.trans (congrArg some (by kernel_rfl))
 f285 := Tryz.func99.trans (congrArg some (by kernel_rfl))
 f286 := Tryz.func100.trans (congrArg some (by kernel_rfl))
 f317 := Tryz.func105.trans (congrArg some (by kernel_rfl))
 f318 := Tryz.func107.trans (congrArg some (by kernel_rfl))
 f319 := Tryz.func108.trans (congrArg some (by kernel_rfl))
 f320 := Tryz.func109.trans (congrArg some (by kernel_rfl))
 f337 := Tryz.func110.trans (congrArg some (by kernel_rfl))
 f338 := Tryz.func111.trans (congrArg some (by kernel_rfl))
 t0 := Tryz.underlying0
 a0 := Tryz.isAgg0
 z0 := Tryz.sizeOf0
 v0 := Tryz.zeroValue0
 t2 := Tryz.underlying2
 a2 := Tryz.isAgg2
 z2 := Tryz.sizeOf2
 v2 := Tryz.zeroValue2
 t3 := Tryz.underlying3
 a3 := Tryz.isAgg3
 z3 := Tryz.sizeOf3
 v3 := Tryz.zeroValue3
 t4 := Tryz.underlying4
 a4 := Tryz.isAgg4
 z4 := Tryz.sizeOf4
 v4 := Tryz.zeroValue4
 t5 := Tryz.underlying5
 a5 := Tryz.isAgg5
 z5 := Tryz.sizeOf5
 v5 := Tryz.zeroValue5
 t9 := Tryz.underlying9
 a9 := Tryz.isAgg9
 z9 := Tryz.sizeOf9
 v9 := Tryz.zeroValue9
 t20 := Tryz.underlying20
 a20 := Tryz.isAgg20
 z20 := Tryz.sizeOf20
 v20 := Tryz.zeroValue20
 t37 := Tryz.underlying77
 a37 := Tryz.isAgg77
 z37 := Tryz.sizeOf77
 v37 := Tryz.zeroValue77
 t46 := Tryz.underlying125
 a46 := Tryz.isAgg125
 z46 := Tryz.sizeOf125
 v46 := Tryz.zeroValue125
 t51 := Tryz.underlying135
 a51 := Tryz.isAgg135
 z51 := Tryz.sizeOf135
 v51 := Tryz.zeroValue135
 t53 := Tryz.underlying127
 a53 := Tryz.isAgg127
 z53 := Tryz.sizeOf127
 v53 := Tryz.zeroValue127
 t171 := Tryz.underlying126
 a171 := Tryz.isAgg126
 z171 := Tryz.sizeOf126
 v171 := Tryz.zeroValue126
 t173 := Tryz.underlying130
 a173 := Tryz.isAgg130
 z173 := Tryz.sizeOf130
 v173 := Tryz.zeroValue130
 t212 := Tryz.underlying143
 a212 := Tryz.isAgg143
 z212 := Tryz.sizeOf143
 v212 := Tryz.zeroValue143
 t213 := Tryz.underlying144
 a213 := Tryz.isAgg144
 z213 := Tryz.sizeOf144
 t232 := Tryz.underlying148
 a232 := Tryz.isAgg148
 z232 := Tryz.sizeOf148
 v232 := Tryz.zeroValue148
 t233 := Tryz.underlying149
 a233 := Tryz.isAgg149
 z233 := Tryz.sizeOf149
 v233 := Tryz.zeroValue149
 g17 := by kernel_rfl
 g18 := by kernel_rfl
 g19 := by kernel_rfl
 i0 := by kernel_rfl
 i2 := by kernel_rfl
 i3 := by kernel_rfl
 i4 := by kernel_rfl
 i5 := by kernel_rfl
 i9 := by kernel_rfl
 i20 := by kernel_rfl
 i37 := by kernel_rfl
 i46 := by kernel_rfl
 i51 := by kernel_rfl
 i53 := by kernel_rfl
 i171 := by kernel_rfl
 i173 := by kernel_rfl
 i212 := by kernel_rfl
 i232 := by kernel_rfl
 i233 := by kernel_rfl
 m17 := by kernel_rfl
 m18 := by kernel_rfl
 m19 := by kernel_rfl }
open Go.RowKit Go.Sort Go.Lib in
theorem Tryz.strconv_FormatInt_10 (n : Int) (h0 : -9223372036854775808 ≤ n) (h1 : n ≤ 9223372036854775807) (w : World) (htab : Lib.TabIs Tryz.prog w "internal/strconv.uint64pow10" .u64 Lib.pow10Tab) :
  Calls Tryz.prog 70 #[.int .i64 n, .int .i64 10] w fun e w' => e = .returned (.string ⟨(Lib.itoa n).toArray⟩) ∧ ∃ k os, w' = grow (w.drewN k) os := Any.strconv_FormatInt_10 Tryz.laysM173 n h0 h1 w htab
def Tryz.lays144_ren : Go.Shelf.Ren := ⟨fun | 144 => 48 | 143 => 65 | 219 => 82 | 217 => 92 | 225 => 93 | 224 => 94 | 267 => 95 | 266 => 103 | 314 => 104 | n => n, fun | 9 => 9 | 4 => 4 | 3 => 3 | 5 => 5 | 46 => 125 | 146 => 136 | 51 => 135 | n => n, fun | 1 => 0 | n => n⟩
theorem Tryz.lays144 : Go.Proofs.Lays.n144 Tryz.prog Tryz.lays144_ren := {
 mixed := by kernel_rfl
 f143 := Tryz.func65.trans (congrArg some (by kernel_rfl))
 f144 := Tryz.func48.trans (congrArg some (by kernel_rfl))
 f217 := Tryz.func92.trans (congrArg some (by kernel_rfl))
 f219 := Tryz.func82.trans (congrArg some (by kernel_rfl))
 f224 := Tryz.func94.trans (congrArg some (by kernel_rfl))
 f225 := Tryz.func93.trans (congrArg some (by kernel_rfl))
 f266 := Tryz.func103.trans (congrArg some (by kernel_rfl))
 f267 := Tryz.func95.trans (congrArg some (by kernel_rfl))
 f314 := Tryz.func104.trans (congrArg some (by kernel_rfl))
 t3 := Tryz.underlying3
 a3 := Tryz.isAgg3
 z3 := Tryz.sizeOf3
 v3 := Tryz.zeroValue3
 t4 := Tryz.underlying4
 a4 := Tryz.isAgg4
 z4 := Tryz.sizeOf4
 v4 := Tryz.zeroValue4
 t5 := Tryz.underlying5
 a5 := Tryz.isAgg5
 z5 := Tryz.sizeOf5
 v5 := Tryz.zeroValue5
 t9 := Tryz.underlying9
 a9 := Tryz.isAgg9
 z9 := Tryz.sizeOf9
 v9 := Tryz.zeroValue9
 t46 := Tryz.underlying125
 a46 := Tryz.isAgg125
 z46 := Tryz.sizeOf125
 v46 := Tryz.zeroValue125
 t51 := Tryz.underlying135
 a51 := Tryz.isAgg135
 z51 := Tryz.sizeOf135
 v51 := Tryz.zeroValue135
 t146 := Tryz.underlying136
 a146 := Tryz.isAgg136
 z146 := Tryz.sizeOf136
 v146 := Tryz.zeroValue136
 g1 := by kernel_rfl }
open Go.RowKit Go.Lib in
theorem Tryz.strings_Contains_one (s : ByteArray) (c : UInt8) (w : World) :
  Calls Tryz.prog 48 #[.string s, .string ⟨#[c]⟩] w fun e w' => e = .returned (.bool (decide (0 ≤ Lib.indexByte s.data.toList c))) ∧ w' = w := Any.strings_Contains_one Tryz.lays144 s c w
open Go.RowKit Go.Lib in
theorem Tryz.strings_Contains (s sub : ByteArray) (m : Int) (w : World) (hs : s.size < 4294967281) (hm : w.cell? ⟨0, 0, none⟩ = some (.int .i64 m)) :
  Calls Tryz.prog 48 #[.string s, .string sub] w fun e w' => e = .returned (.bool (Lib.contains s.data.toList sub.data.toList)) ∧ w' = w := Any.strings_Contains Tryz.lays144 s sub m w hs hm
def Tryz.lays145_ren : Go.Shelf.Ren := ⟨fun | 145 => 54 | 220 => 73 | 219 => 82 | 217 => 92 | 225 => 93 | 224 => 94 | 267 => 95 | 266 => 103 | 314 => 104 | n => n, fun | 9 => 9 | 4 => 4 | 59 => 90 | 3 => 3 | 5 => 5 | 46 => 125 | 146 => 136 | 51 => 135 | n => n, fun | 1 => 0 | n => n⟩
theorem Tryz.lays145 : Go.Proofs.Lays.n145 Tryz.prog Tryz.lays145_ren := {
 mixed := by kernel_rfl
 f145 := Tryz.func54.trans (congrArg some (by kernel_rfl))
 f217 := Tryz.func92.trans (congrArg some (by kernel_rfl))
 f219 := Tryz.func82.trans (congrArg some (by kernel_rfl))
 f220 := Tryz.func73.trans (congrArg some (by kernel_rfl))
 f224 := Tryz.func94.trans (congrArg some (by kernel_rfl))
 f225 := Tryz.func93.trans (congrArg some (by kernel_rfl))
 f266 := Tryz.func103.trans (congrArg some (by kernel_rfl))
 f267 := Tryz.func95.trans (congrArg some (by kernel_rfl))
 f314 := Tryz.func104.trans (congrArg some (by kernel_rfl))
 t3 := Tryz.underlying3
 a3 := Tryz.isAgg3
 z3 := Tryz.sizeOf3
 v3 := Tryz.zeroValue3
 t4 := Tryz.underlying4
 a4 := Tryz.isAgg4
 z4 := Tryz.sizeOf4
 v4 := Tryz.zeroValue4
 t5 := Tryz.underlying5
 a5 := Tryz.isAgg5
 z5 := Tryz.sizeOf5
 v5 := Tryz.zeroValue5
 t9 := Tryz.underlying9
 a9 := Tryz.isAgg9
 z9 := Tryz.sizeOf9
 v9 := Tryz.zeroValue9
 t46 := Tryz.underlying125
 a46 := Tryz.isAgg125
 z46 := Tryz.sizeOf125
 v46 := Tryz.zeroValue125
 t51 := Tryz.underlying135
 a51 := Tryz.isAgg135
 z51 := Tryz.sizeOf135
 v51 := Tryz.zeroValue135
 t59 := Tryz.underlying90
 a59 := Tryz.isAgg90
 z59 := Tryz.sizeOf90
 v59 := Tryz.zeroValue90
 t146 := Tryz.underlying136
 a146 := Tryz.isAgg136
 z146 := Tryz.sizeOf136
 v146 := Tryz.zeroValue136
 g1 := by kernel_rfl }
open Go.RowKit Go.Lib in
theorem Tryz.strings_Cut (s sep : ByteArray) (m : Int) (w : World) (hs : s.size < 4294967281) (hm : w.cell? ⟨0, 0, none⟩ = some (.int .i64 m)) :
  Calls Tryz.prog 54 #[.string s, .string sep] w fun e w' => e = .returned (.tuple #[.string ⟨(Lib.cut s.data.toList sep.data.toList).1.toArray⟩, .string ⟨(Lib.cut s.data.toList sep.data.toList).2.1.toArray⟩, .bool (Lib.cut s.data.toList sep.data.toList).2.2]) ∧ ∃ n, w' = w.drewN n := Any.strings_Cut Tryz.lays145 s sep m w hs hm
def Tryz.laysM219_ren : Go.Shelf.Ren := ⟨fun | 219 => 82 | 217 => 92 | 225 => 93 | 224 => 94 | 267 => 95 | 266 => 103 | 314 => 104 | n => n, fun | 9 => 9 | 3 => 3 | 4 => 4 | 5 => 5 | 46 => 125 | 146 => 136 | 51 => 135 | n => n, fun | 1 => 0 | n => n⟩
theorem Tryz.laysM219 : Go.Proofs.LaysM.n219 Tryz.prog Tryz.laysM219_ren := {
 mixed := by kernel_rfl
 f217 := Tryz.func92.trans (congrArg some (by kernel_rfl))
 f219 := Tryz.func82.trans (congrArg some (by kernel_rfl))
 f224 := Tryz.func94.trans (congrArg some (by kernel_rfl))
 f225 := Tryz.func93.trans (congrArg some (by kernel_rfl))
 f266 := Tryz.func103.trans (congrArg some (by kernel_rfl))
 f267 := Tryz.func95.trans (congrArg some (by kernel_rfl))
 f314 := Tryz.func104.trans (congrArg some (by kernel_rfl))
 t3 := Tryz.underlying3
 a3 := Tryz.isAgg3
 z3 := Tryz.sizeOf3
 v3 := Tryz.zeroValue3
 t4 := Tryz.underlying4
 a4 := Tryz.isAgg4
 z4 := Tryz.sizeOf4
 v4 := Tryz.zeroValue4
 t5 := Tryz.underlying5
 a5 := Tryz.isAgg5
 z5 := Tryz.sizeOf5
 v5 := Tryz.zeroValue5
 t9 := Tryz.underlying9
 a9 := Tryz.isAgg9
 z9 := Tryz.sizeOf9
 v9 := Tryz.zeroValue9
 t46 := Tryz.underlying125
 a46 := Tryz.isAgg125
 z46 := Tryz.sizeOf125
 v46 := Tryz.zeroValue125
 t51 := Tryz.underlying135
 a51 := Tryz.isAgg135
 z51 := Tryz.sizeOf135
 v51 := Tryz.zeroValue135
 t146 := Tryz.underlying136
 a146 := Tryz.isAgg136
 z146 := Tryz.sizeOf136
 v146 := Tryz.zeroValue136
 g1 := by kernel_rfl
 i3 := by kernel_rfl
 i4 := by kernel_rfl
 i5 := by kernel_rfl
 i9 := by kernel_rfl
 i46 := by kernel_rfl
 i51 := by kernel_rfl
 i146 := by kernel_rfl
 m1 := by kernel_rfl
 s1_3 := fun w h => Go.Proofs.cell_of_shapedOpen_int (zero := #[.int .i64 0]) (t := 3) h (of_decide_eq_true (by kernel_rfl)) (by kernel_rfl) rfl (by kernel_rfl) (by kernel_rfl) Tryz.underlying3 }
def Tryz.lays206_ren : Go.Shelf.Ren := ⟨fun | 206 => 69 | n => n, fun | 9 => 9 | 4 => 4 | 3 => 3 | n => n, fun | n => n⟩
theorem Tryz.lays206 : Go.Proofs.Lays.n206 Tryz.prog Tryz.lays206_ren := {
 mixed := by kernel_rfl
 f206 := Tryz.func69.trans (congrArg some (by kernel_rfl))
 t3 := Tryz.underlying3
 a3 := Tryz.isAgg3
 z3 := Tryz.sizeOf3
 v3 := Tryz.zeroValue3
 t4 := Tryz.underlying4
 a4 := Tryz.isAgg4
 z4 := Tryz.sizeOf4
 v4 := Tryz.zeroValue4
 t9 := Tryz.underlying9
 a9 := Tryz.isAgg9
 z9 := Tryz.sizeOf9
 v9 := Tryz.zeroValue9 }
open Go.RowKit Go.Lib in
theorem Tryz.stringslite_HasPrefix (s p : ByteArray) (w : World) :
  Calls Tryz.prog 69 #[.string s, .string p] w fun e w' => e = .returned (.bool (Lib.hasPrefix s.data.toList p.data.toList)) ∧ w' = w := Any.stringslite_HasPrefix Tryz.lays206 s p w
def Tryz.lays99_ren : Go.Shelf.Ren := ⟨fun | 99 => 51 | 206 => 69 | n => n, fun | 9 => 9 | 4 => 4 | 3 => 3 | n => n, fun | n => n⟩
theorem Tryz.lays99 : Go.Proofs.Lays.n99 Tryz.prog Tryz.lays99_ren := {
 mixed := by kernel_rfl
 f99 := Tryz.func51.trans (congrArg some (by kernel_rfl))
 f206 := Tryz.func69.trans (congrArg some (by kernel_rfl))
 t3 := Tryz.underlying3
 a3 := Tryz.isAgg3
 z3 := Tryz.sizeOf3
 v3 := Tryz.zeroValue3
 t4 := Tryz.underlying4
 a4 := Tryz.isAgg4
 z4 := Tryz.sizeOf4
 v4 := Tryz.zeroValue4
 t9 := Tryz.underlying9
 a9 := Tryz.isAgg9
 z9 := Tryz.sizeOf9
 v9 := Tryz.zeroValue9 }
open Go.RowKit Go.Lib in
theorem Tryz.strings_HasPrefix (s p : ByteArray) (w : World) :
  Calls Tryz.prog 51 #[.string s, .string p] w fun e w' => e = .returned (.bool (Lib.hasPrefix s.data.toList p.data.toList)) ∧ w' = w := Any.strings_HasPrefix Tryz.lays99 s p w
def Tryz.lays146_ren : Go.Shelf.Ren := ⟨fun | 146 => 34 | 221 => 50 | 268 => 67 | 138 => 68 | 143 => 65 | 195 => 84 | 197 => 85 | 218 => 86 | 219 => 82 | 260 => 96 | 217 => 92 | 225 => 93 | 224 => 94 | 267 => 95 | 266 => 103 | 314 => 104 | n => n, fun | 9 => 9 | 31 => 54 | 3 => 3 | 4 => 4 | 0 => 0 | 105 => 117 | 21 => 21 | 5 => 5 | 46 => 125 | 119 => 138 | 139 => 141 | 138 => 140 | 146 => 136 | 51 => 135 | n => n, fun | 1 => 0 | 3 => 1 | 4 => 2 | n => n⟩
theorem Tryz.lays146 : Go.Proofs.Lays.n146 Tryz.prog Tryz.lays146_ren := {
 mixed := by kernel_rfl
 f138 := Tryz.func68.trans (congrArg some (by kernel_rfl))
 f143 := Tryz.func65.trans (congrArg some (by kernel_rfl))
 f146 := Tryz.func34.trans (congrArg some (by kernel_rfl))
 f195 := Tryz.func84.trans (congrArg some (by kernel_rfl))
 f197 := Tryz.func85.trans (congrArg some (by kernel_rfl))
 f217 := Tryz.func92.trans (congrArg some (by kernel_rfl))
 f218 := Tryz.func86.trans (congrArg some (by kernel_rfl))
 f219 := Tryz.func82.trans (congrArg some (by kernel_rfl))
 f221 := Tryz.func50.trans (congrArg some (by kernel_rfl))
 f224 := Tryz.func94.trans (congrArg some (by kernel_rfl))
 f225 := Tryz.func93.trans (congrArg some (by kernel_rfl))
 f260 := Tryz.func96.trans (congrArg some (by kernel_rfl))
 f266 := Tryz.func103.trans (congrArg some (by kernel_rfl))
 f267 := Tryz.func95.trans (congrArg some (by kernel_rfl))
 f268 := Tryz.func67.trans (congrArg some (by kernel_rfl))
 f314 := Tryz.func104.trans (congrArg some (by kernel_rfl))
 t0 := Tryz.underlying0
 a0 := Tryz.isAgg0
 z0 := Tryz.sizeOf0
 v0 := Tryz.zeroValue0
 t3 := Tryz.underlying3
 a3 := Tryz.isAgg3
 z3 := Tryz.sizeOf3
 v3 := Tryz.zeroValue3
 t4 := Tryz.underlying4
 a4 := Tryz.isAgg4
 z4 := Tryz.sizeOf4
 v4 := Tryz.zeroValue4
 t5 := Tryz.underlying5
 a5 := Tryz.isAgg5
 z5 := Tryz.sizeOf5
 v5 := Tryz.zeroValue5
 t9 := Tryz.underlying9
 a9 := Tryz.isAgg9
 z9 := Tryz.sizeOf9
 v9 := Tryz.zeroValue9
 t21 := Tryz.underlying21
 a21 := Tryz.isAgg21
 z21 := Tryz.sizeOf21
 v21 := Tryz.zeroValue21
 t31 := Tryz.underlying54
 a31 := Tryz.isAgg54
 z31 := Tryz.sizeOf54
 v31 := Tryz.zeroValue54
 t46 := Tryz.underlying125
 a46 := Tryz.isAgg125
 z46 := Tryz.sizeOf125
 v46 := Tryz.zeroValue125
 t51 := Tryz.underlying135
 a51 := Tryz.isAgg135
 z51 := Tryz.sizeOf135
 v51 := Tryz.zeroValue135
 t105 := Tryz.underlying117
 a105 := Tryz.isAgg117
 z105 := Tryz.sizeOf117
 v105 := Tryz.zeroValue117
 t119 := Tryz.underlying138
 a119 := Tryz.isAgg138
 z119 := Tryz.sizeOf138
 t138 := Tryz.underlying140
 a138 := Tryz.isAgg140
 z138 := Tryz.sizeOf140
 v138 := Tryz.zeroValue140
 t139 := Tryz.underlying141
 a139 := Tryz.isAgg141
 z139 := Tryz.sizeOf141
 v139 := Tryz.zeroValue141
 t146 := Tryz.underlying136
 a146 := Tryz.isAgg136
 z146 := Tryz.sizeOf136
 v146 := Tryz.zeroValue136
 g1 := by kernel_rfl
 g3 := by kernel_rfl
 g4 := by kernel_rfl }
open Go.RowKit Go.Lib in
theorem Tryz.strings_Split (s sep : ByteArray) (m : Int) (w : World) (hs : s.size < 4294967281) (hm : w.cell? ⟨0, 0, none⟩ = some (.int .i64 m)) (h1 : 1 ≤ sep.size) :
  Calls Tryz.prog 34 #[.string s, .string sep] w fun e w' =>
   e = .returned (.slice (some ⟨w.heap.size, 0, none⟩) (Lib.countB s sep + 1) (Lib.countB s sep + 1)) ∧ w' = w.alloc (.cells ((Lib.splitB sep 0 (Lib.countB s sep) s).map Value.string).toArray 9) := Any.strings_Split Tryz.lays146 (by kernel_rfl) s sep m w hs hm h1
end Go.Proofs
namespace Go.Proofs.YtckboiphlhhckaaGreatDoor.Q
open Go.RowKit Go.Proofs.YtckboiphlhhckaaGreatDoorW.PrintWords Go.Proofs.YtckboiphlhhckaaGreatDoorW.PrintLast Go.Proofs.YtckboiphlhhckaaGreatDoorW.PrintMore
attribute [local go_sem] aN_ aM_ aW_ aU_ aC_ aD_ aL_ aO_
def strings_Contains.f (a0 : ByteArray) (a1 : ByteArray) : Option (Bool) := match a1.data.toList with
 | [c] => some (decide (0 ≤ Go.Lib.indexByte a0.data.toList c))
 | _ => none
theorem strings_Contains.calls (a0 : ByteArray) (a1 : ByteArray) (r : Bool) (w : World) (h : strings_Contains.f a0 a1 = some r) :
  Calls Tryz.prog 48 #[.string a0, .string a1] w fun e w' => e = .returned (.bool r) ∧ ap_ w w' := by
 obtain ⟨d⟩ := a1
 obtain ⟨l⟩ := d
 match l, h with
 | [c], h =>
  obtain rfl := Option.some.inj h
  refine (Go.Proofs.Tryz.strings_Contains_one a0 c w).mono ?_
  rintro e w' ⟨rfl, rfl⟩
  exact ⟨rfl, ap_.refl _⟩
def ca_.f (k : Nat) (a0_0 : ByteArray) (a0_1 : ByteArray) (a0_2 : ByteArray) : Option (Bool) := (au_.f k a0_0).bind fun t102 => (if t102 = true then ((au_.f k a0_1).bind fun t103 => (if t103 = true then (if (a0_2.size : Int) ≤ 400 then ((strings_Contains.f a0_2 (⟨#[10]⟩ : ByteArray)).bind fun t104 => (some (!t104))) else (some false)) else (some false))) else (some false))
set_option maxHeartbeats 8000000 in
set_option maxRecDepth 100000 in
theorem ca_.calls (k : Nat) (a0_0 : ByteArray) (a0_1 : ByteArray) (a0_2 : ByteArray) (r : Bool) (w : World) (h : ca_.f k a0_0 a0_1 a0_2 = some r) :
  Calls Tryz.prog 32 #[.agg #[.string a0_0, .string a0_1, .string a0_2]] w fun e w' => e = .returned (.bool r) ∧ Below w.heap.size w w' := by
 have hu38 := Tryz.underlying38
 have HB := Aside0.mk (Below.refl w.heap.size w)
 have H : ((au_.f k a0_0).bind fun t102 => (if t102 = true then ((au_.f k a0_1).bind fun t103 => (if t103 = true then (if (a0_2.size : Int) ≤ 400 then ((strings_Contains.f a0_2 (⟨#[10]⟩ : ByteArray)).bind fun t104 => (some (!t104))) else (some false)) else (some false))) else (some false))) = some r := h
 clear h
 replace H := Option.bind_eq_some_iff.mp H
 obtain ⟨t102, A20, H⟩ := H
 (try dsimp only at H)
 have A2 := Aside0.mk A20
 clear A20
 by_cases c3 : t102 = true
 rotate_left
 ·replace c3 := Bool.eq_false_iff.mpr c3
  subst c3
  have H1 : (some false) = some r := by rw [if_neg (show ¬ (false = true) by decide)] at H; exact H
  clear H
  have H := H1
  clear H1
  obtain rfl := Option.some.inj H
  go_enter Tryz.func32, Tryz.ntmps32
  go_wp2_with (first | ((with_reducible refine aI_ (N := 1) rfl ?_); (try (refine cH_ (by rfl) ?_; dsimp only)); refine aR_ ?hg (N := 1) ?hd (cs := #[.string a0_0, .string a0_1, .string a0_2]) (t := 38) ?hr ?_; (case hd => rfl); (case hg => rfl); (case hr => (go_simp; try rfl)); intro gb101 hg w14 hbox hb; have BK101 := Aside0.mk (hbox); have GW101 := Aside0.mk ((by rw [hg]; exact (ad_ (bz HB.out)) : w.heap.size ≤ gb101)); have GE101 := Aside0.mk ((by rw [hg]; exact (ad_ (bz HB.out)) : w.heap.size ≤ gb101)); replace HB := Aside0.mk (ac_ (bz HB.out) hb); clear hb hbox hg; obtain ⟨hcz15_0, hcz15_1, hcz15_2⟩ := cz3_ BK101.out; obtain ⟨hfz15_0, hfz15_1, hfz15_2⟩ := fz3_ BK101.out) | ((with_reducible refine af_ (f := 47) rfl ?_); refine aJ_ (some 5) rfl rfl Tryz.func47 (by kernel_rfl) rfl #[.string a0_0] rfl (by first | rfl | (simp only [lma_, lmc_, lmn_]; first | done | rfl)) ?_; (with_reducible refine (au_.calls k a0_0 false _ A2.out).mono ?_); rintro e w' ⟨rfl, ⟨nd, rfl⟩⟩; refine ⟨_, rfl, ?_⟩))
  go_ret
  exact ⟨by first | rfl | (simp [*, ai_, ah_] <;> rfl), by repeat (first | (with_reducible first | exact HB.out | apply bA_ | apply bN_ | apply bD_ | refine aa_ ?_ GE101.out))⟩
 subst c3
 have H1 : ((au_.f k a0_1).bind fun t103 => (if t103 = true then (if (a0_2.size : Int) ≤ 400 then ((strings_Contains.f a0_2 (⟨#[10]⟩ : ByteArray)).bind fun t104 => (some (!t104))) else (some false)) else (some false))) = some r := by rw [if_pos rfl] at H; exact H
 clear H
 have H := H1
 clear H1
 replace H := Option.bind_eq_some_iff.mp H
 obtain ⟨t103, A40, H⟩ := H
 (try dsimp only at H)
 have A4 := Aside0.mk A40
 clear A40
 by_cases c5 : t103 = true
 rotate_left
 ·replace c5 := Bool.eq_false_iff.mpr c5
  subst c5
  have H1 : (some false) = some r := by rw [if_neg (show ¬ (false = true) by decide)] at H; exact H
  clear H
  have H := H1
  clear H1
  obtain rfl := Option.some.inj H
  go_enter Tryz.func32, Tryz.ntmps32
  go_wp2_with (first | ((with_reducible refine aI_ (N := 1) rfl ?_); (try (refine cH_ (by rfl) ?_; dsimp only)); refine aR_ ?hg (N := 1) ?hd (cs := #[.string a0_0, .string a0_1, .string a0_2]) (t := 38) ?hr ?_; (case hd => rfl); (case hg => rfl); (case hr => (go_simp; try rfl)); intro gb101 hg w12 hbox hb; have BK101 := Aside0.mk (hbox); have GW101 := Aside0.mk ((by rw [hg]; exact (ad_ (bz HB.out)) : w.heap.size ≤ gb101)); have GE101 := Aside0.mk ((by rw [hg]; exact (ad_ (bz HB.out)) : w.heap.size ≤ gb101)); replace HB := Aside0.mk (ac_ (bz HB.out) hb); clear hb hbox hg; obtain ⟨hcz13_0, hcz13_1, hcz13_2⟩ := cz3_ BK101.out; obtain ⟨hfz13_0, hfz13_1, hfz13_2⟩ := fz3_ BK101.out) | ((with_reducible refine af_ (f := 47) rfl ?_); refine aJ_ (some 5) rfl rfl Tryz.func47 (by kernel_rfl) rfl #[.string a0_0] rfl (by first | rfl | (simp only [lma_, lmc_, lmn_]; first | done | rfl)) ?_; (with_reducible refine (au_.calls k a0_0 true _ A2.out).mono ?_); rintro e w' ⟨rfl, ⟨nd, rfl⟩⟩; refine ⟨_, rfl, ?_⟩) | (go_at_call 47; (with_reducible refine (au_.calls k a0_1 false _ A4.out).mono ?_); rintro e w' ⟨rfl, ⟨nd, rfl⟩⟩))
  go_ret
  exact ⟨by first | rfl | (simp [*, ai_, ah_] <;> rfl), by repeat (first | (with_reducible first | exact HB.out | apply bA_ | apply bN_ | apply bD_ | refine aa_ ?_ GE101.out))⟩
 subst c5
 have H1 : (if (a0_2.size : Int) ≤ 400 then ((strings_Contains.f a0_2 (⟨#[10]⟩ : ByteArray)).bind fun t104 => (some (!t104))) else (some false)) = some r := by rw [if_pos rfl] at H; exact H
 clear H
 have H := H1
 clear H1
 by_cases c6 : (a0_2.size : Int) ≤ 400
 rotate_left
 ·rw [if_neg c6] at H
  have c6b0 : decide ((a0_2.size : Int) ≤ 400) = false := decide_eq_false c6
  have c6b1 : decide (a0_2.size ≤ 400) = false := decide_eq_false (by omega)
  clear c6
  obtain rfl := Option.some.inj H
  go_enter Tryz.func32, Tryz.ntmps32
  go_wp2_with (first | ((with_reducible refine aI_ (N := 1) rfl ?_); (try (refine cH_ (by rfl) ?_; dsimp only)); refine aR_ ?hg (N := 1) ?hd (cs := #[.string a0_0, .string a0_1, .string a0_2]) (t := 38) ?hr ?_; (case hd => rfl); (case hg => rfl); (case hr => (go_simp; try rfl)); intro gb101 hg w10 hbox hb; have BK101 := Aside0.mk (hbox); have GW101 := Aside0.mk ((by rw [hg]; exact (ad_ (bz HB.out)) : w.heap.size ≤ gb101)); have GE101 := Aside0.mk ((by rw [hg]; exact (ad_ (bz HB.out)) : w.heap.size ≤ gb101)); replace HB := Aside0.mk (ac_ (bz HB.out) hb); clear hb hbox hg; obtain ⟨hcz11_0, hcz11_1, hcz11_2⟩ := cz3_ BK101.out; obtain ⟨hfz11_0, hfz11_1, hfz11_2⟩ := fz3_ BK101.out) | ((with_reducible refine af_ (f := 47) rfl ?_); refine aJ_ (some 5) rfl rfl Tryz.func47 (by kernel_rfl) rfl #[.string a0_0] rfl (by first | rfl | (simp only [lma_, lmc_, lmn_]; first | done | rfl)) ?_; (with_reducible refine (au_.calls k a0_0 true _ A2.out).mono ?_); rintro e w' ⟨rfl, ⟨nd, rfl⟩⟩; refine ⟨_, rfl, ?_⟩) | (go_at_call 47; (with_reducible refine (au_.calls k a0_1 true _ A4.out).mono ?_); rintro e w' ⟨rfl, ⟨nd, rfl⟩⟩))
  go_ret
  exact ⟨by first | rfl | (simp [*, ai_, ah_] <;> rfl), by repeat (first | (with_reducible first | exact HB.out | apply bA_ | apply bN_ | apply bD_ | refine aa_ ?_ GE101.out))⟩
 rw [if_pos c6] at H
 have c6b0 : decide ((a0_2.size : Int) ≤ 400) = true := decide_eq_true c6
 have c6b1 : decide (a0_2.size ≤ 400) = true := decide_eq_true (by omega)
 clear c6
 replace H := Option.bind_eq_some_iff.mp H
 obtain ⟨t104, A70, H⟩ := H
 (try dsimp only at H)
 have A7 := Aside0.mk A70
 clear A70
 obtain rfl := Option.some.inj H
 go_enter Tryz.func32, Tryz.ntmps32
 go_wp2_with (first | ((with_reducible refine aI_ (N := 1) rfl ?_); (try (refine cH_ (by rfl) ?_; dsimp only)); refine aR_ ?hg (N := 1) ?hd (cs := #[.string a0_0, .string a0_1, .string a0_2]) (t := 38) ?hr ?_; (case hd => rfl); (case hg => rfl); (case hr => (go_simp; try rfl)); intro gb101 hg w8 hbox hb; have BK101 := Aside0.mk (hbox); have GW101 := Aside0.mk ((by rw [hg]; exact (ad_ (bz HB.out)) : w.heap.size ≤ gb101)); have GE101 := Aside0.mk ((by rw [hg]; exact (ad_ (bz HB.out)) : w.heap.size ≤ gb101)); replace HB := Aside0.mk (ac_ (bz HB.out) hb); clear hb hbox hg; obtain ⟨hcz9_0, hcz9_1, hcz9_2⟩ := cz3_ BK101.out; obtain ⟨hfz9_0, hfz9_1, hfz9_2⟩ := fz3_ BK101.out) | ((with_reducible refine af_ (f := 47) rfl ?_); refine aJ_ (some 5) rfl rfl Tryz.func47 (by kernel_rfl) rfl #[.string a0_0] rfl (by first | rfl | (simp only [lma_, lmc_, lmn_]; first | done | rfl)) ?_; (with_reducible refine (au_.calls k a0_0 true _ A2.out).mono ?_); rintro e w' ⟨rfl, ⟨nd, rfl⟩⟩; refine ⟨_, rfl, ?_⟩) | (go_at_call 47; (with_reducible refine (au_.calls k a0_1 true _ A4.out).mono ?_); rintro e w' ⟨rfl, ⟨nd, rfl⟩⟩) | (go_at_call 48; (with_reducible refine (strings_Contains.calls a0_2 (⟨#[10]⟩ : ByteArray) t104 _ A7.out).mono ?_); rintro e w' ⟨rfl, ⟨nd, rfl⟩⟩))
 go_ret
 exact ⟨by first | rfl | (simp [*, ai_, ah_] <;> rfl), by repeat (first | (with_reducible first | exact HB.out | apply bA_ | apply bN_ | apply bD_ | refine aa_ ?_ GE101.out))⟩
def strings_Compare.f (a0 : ByteArray) (a1 : ByteArray) : Option (Int) := some (Go.Lib.compareBytes a0.data.toList a1.data.toList)
theorem strings_Compare.calls (a0 : ByteArray) (a1 : ByteArray) (r : Int) (w : World) (h : strings_Compare.f a0 a1 = some r) :
  Calls Tryz.prog 49 #[.string a0, .string a1] w fun e w' => e = .returned (.int .i64 r) ∧ ap_ w w' := by
 obtain rfl := Option.some.inj h
 refine (Go.Proofs.Tryz.strings_Compare a0 a1 w).mono ?_
 rintro e w' ⟨rfl, rfl⟩
 exact ⟨rfl, ap_.refl _⟩
def bV_.f (a0_0 : ByteArray) (a0_1 : ByteArray) (a0_2 : ByteArray) (a1_0 : ByteArray) (a1_1 : ByteArray) (a1_2 : ByteArray) : Option (Int) := (strings_Compare.f a0_0 a1_0).bind fun t103 => (if t103 = 0 then ((strings_Compare.f a0_1 a1_1).bind fun t104 => (some t104)) else (some t103))
set_option maxHeartbeats 8000000 in
set_option maxRecDepth 100000 in
theorem bV_.calls (a0_0 : ByteArray) (a0_1 : ByteArray) (a0_2 : ByteArray) (a1_0 : ByteArray) (a1_1 : ByteArray) (a1_2 : ByteArray) (r : Int) (w : World) (h : bV_.f a0_0 a0_1 a0_2 a1_0 a1_1 a1_2 = some r) :
  Calls Tryz.prog 33 #[.agg #[.string a0_0, .string a0_1, .string a0_2], .agg #[.string a1_0, .string a1_1, .string a1_2]] w fun e w' => e = .returned (.int .i64 r) ∧ Below w.heap.size w w' := by
 have hu38 := Tryz.underlying38
 have HB := Aside0.mk (Below.refl w.heap.size w)
 have H : ((strings_Compare.f a0_0 a1_0).bind fun t103 => (if t103 = 0 then ((strings_Compare.f a0_1 a1_1).bind fun t104 => (some t104)) else (some t103))) = some r := h
 clear h
 replace H := Option.bind_eq_some_iff.mp H
 obtain ⟨t103, A30, H⟩ := H
 (try dsimp only at H)
 have A3 := Aside0.mk A30
 clear A30
 have HC4 := Aside0.mk H
 clear H
 go_enter Tryz.func33, Tryz.ntmps33
 go_upto_if 12 with (first | ((with_reducible refine aI_ (N := 2) rfl ?_); refine aR_ ?hg (N := 2) ?hd (cs := #[.string a0_0, .string a0_1, .string a0_2]) (t := 38) ?hr ?_; (case hd => rfl); (case hg => rfl); (case hr => (go_simp; try rfl)); intro gb101 hg w5 hbox hb; have BK101 := Aside0.mk (hbox); have GW101 := Aside0.mk ((by rw [hg]; exact (ad_ (bz HB.out)) : w.heap.size ≤ gb101)); have GE101 := Aside0.mk ((by rw [hg]; exact (ad_ (bz HB.out)) : w.heap.size ≤ gb101)); replace HB := Aside0.mk (ac_ (bz HB.out) hb); clear hb hbox hg) | ((with_reducible refine aI_ (N := 3) rfl ?_); refine aR_ ?hg (N := 3) ?hd (cs := #[.string a1_0, .string a1_1, .string a1_2]) (t := 38) ?hr ?_; (case hd => rfl); (case hg => rfl); (case hr => (go_simp; try rfl)); intro gb102 hg w6 hbox hb; have BK102 := Aside0.mk (hbox); have GW102 := Aside0.mk ((by rw [hg]; exact (ad_ (by repeat (first | (with_reducible first | exact HB.out | apply bA_ | apply bN_ | apply bD_ | refine aa_ ?_ GE101.out)))) : w.heap.size ≤ gb102)); have GE102 := Aside0.mk ((by rw [hg]; exact (ad_ (by repeat (first | (with_reducible first | exact HB.out | apply bA_ | apply bN_ | apply bD_ | refine aa_ ?_ GE101.out)))) : w.heap.size ≤ gb102)); replace HB := Aside0.mk (ac_ (by repeat (first | (with_reducible first | exact HB.out | apply bA_ | apply bN_ | apply bD_ | refine aa_ ?_ GE101.out))) hb); have NB101_102 := Aside0.mk ((by rw [hg]; exact Nat.ne_of_lt (bF_ (kz BK101.out)) : gb101 ≠ gb102)); have NB102_101 := Aside0.mk ((by rw [hg]; exact Nat.ne_of_gt (bF_ (kz BK101.out)) : gb102 ≠ gb101)); replace BK101 := Aside0.mk (an_ (kz BK101.out) hb); clear hb hbox hg; have hnb7 := NB101_102.out; have hnc7 := NB102_101.out; obtain ⟨hcz8_0, hcz8_1, hcz8_2⟩ := cz3_ BK101.out; obtain ⟨hfz8_0, hfz8_1, hfz8_2⟩ := fz3_ BK101.out; obtain ⟨hcz9_0, hcz9_1, hcz9_2⟩ := cz3_ BK102.out; obtain ⟨hfz9_0, hfz9_1, hfz9_2⟩ := fz3_ BK102.out) | ((with_reducible refine af_ (f := 49) rfl ?_); refine aJ_ (some 10) rfl rfl Tryz.func49 (by kernel_rfl) rfl #[.string a0_0, .string a1_0] rfl (by first | rfl | (simp only [lma_, lmc_, lmn_]; first | done | rfl)) ?_; (with_reducible refine (strings_Compare.calls a0_0 a1_0 t103 _ A3.out).mono ?_); rintro e w' ⟨rfl, ⟨nd, rfl⟩⟩; refine ⟨_, rfl, ?_⟩; (try (rw [bm_ w6]; generalize hq_ : World.drewN w6 _ = w6; replace BK101 := Aside0.mk (rqB hq_ BK101.out); replace BK102 := Aside0.mk (rqB hq_ BK102.out); replace HB := Aside0.mk (rqH hq_ HB.out); clear hq_))))
 (try simp only [Act.put, lsa_, ls0_, ls1_])
 have H := HC4.out
 clear HC4
 by_cases c10 : t103 = 0
 rotate_left
 ·rw [if_neg c10] at H
  have c10b0 : (t103 == 0) = false := beq_eq_false_iff_ne.mpr c10
  have c10b1 : (t103 != 0) = true := bne_iff_ne.mpr c10
  (first | rw [c10b0] | (simp only [i64_w, i32_w]; rw [c10b0]) | (simp only [c10b1, Bool.not_true, Bool.not_false]) | (simp only [c10b0, Bool.not_true, Bool.not_false]) | skip)
  obtain rfl := Option.some.inj H
  go_wp2
  go_ret
  exact ⟨by first | rfl | (simp [*, ai_, ah_] <;> rfl), by repeat (first | (with_reducible first | exact HB.out | apply bA_ | apply bN_ | apply bD_ | refine aa_ ?_ GE101.out | refine aa_ ?_ GE102.out))⟩
 rw [if_pos c10] at H
 have c10b0 : (t103 == 0) = true := beq_iff_eq.mpr c10
 have c10b1 : (t103 != 0) = false := bne_eq_false_iff_eq.mpr c10
 clear c10
 (first | rw [c10b0] | (simp only [i64_w, i32_w]; rw [c10b0]) | (simp only [c10b1, Bool.not_true, Bool.not_false]) | (simp only [c10b0, Bool.not_true, Bool.not_false]) | skip)
 replace H := Option.bind_eq_some_iff.mp H
 obtain ⟨t104, A110, H⟩ := H
 (try dsimp only at H)
 have A11 := Aside0.mk A110
 clear A110
 obtain rfl := Option.some.inj H
 have hnb12 := NB101_102.out
 have hnc12 := NB102_101.out
 obtain ⟨hcz13_0, hcz13_1, hcz13_2⟩ := cz3_ BK101.out
 obtain ⟨hfz13_0, hfz13_1, hfz13_2⟩ := fz3_ BK101.out
 obtain ⟨hcz14_0, hcz14_1, hcz14_2⟩ := cz3_ BK102.out
 obtain ⟨hfz14_0, hfz14_1, hfz14_2⟩ := fz3_ BK102.out
 go_wp2_with (first | ((with_reducible refine af_ (f := 49) rfl ?_); refine aJ_ (some 18) rfl rfl Tryz.func49 (by kernel_rfl) rfl #[.string a0_1, .string a1_1] rfl (by first | rfl | (simp only [lma_, lmc_, lmn_]; first | done | rfl)) ?_; (with_reducible refine (strings_Compare.calls a0_1 a1_1 t104 _ A11.out).mono ?_); rintro e w' ⟨rfl, ⟨nd, rfl⟩⟩; refine ⟨_, rfl, ?_⟩; (try (rw [bm_ w6]; generalize hq_ : World.drewN w6 _ = w6; replace BK101 := Aside0.mk (rqB hq_ BK101.out); replace BK102 := Aside0.mk (rqB hq_ BK102.out); replace HB := Aside0.mk (rqH hq_ HB.out); clear hq_))))
 go_ret
 exact ⟨by first | rfl | (simp [*, ai_, ah_] <;> rfl), by repeat (first | (with_reducible first | exact HB.out | apply bA_ | apply bN_ | apply bD_ | refine aa_ ?_ GE101.out | refine aa_ ?_ GE102.out))⟩
def aA_.l0 : Nat → List (S38) → List (S38) → Int → Int → Option (Bool)
 | 0, _, _, _, _ => none
 | k + 1, x0, x5, x6, x7 => if x7 < x6 then (if 0 ≤ x7 then (if x7 < (x5.length : Int) then ((ca_.f k ((ag_ x5 x7).f0) ((ag_ x5 x7).f1) ((ag_ x5 x7).f2)).bind fun t103 => (if t103 = true then (if x7 > 0 then (if 0 ≤ (wrap64 (x7 - 1)) then (if (wrap64 (x7 - 1)) < (x0.length : Int) then ((bV_.f ((ag_ x0 (wrap64 (x7 - 1))).f0) ((ag_ x0 (wrap64 (x7 - 1))).f1) ((ag_ x0 (wrap64 (x7 - 1))).f2) ((ag_ x5 x7).f0) ((ag_ x5 x7).f1) ((ag_ x5 x7).f2)).bind fun t105 => (if t105 ≥ 0 then (some false) else (aA_.l0 k x0 x5 x6 (wrap64 (x7 + 1))))) else (none)) else (none)) else (aA_.l0 k x0 x5 x6 (wrap64 (x7 + 1)))) else (some false))) else (none)) else (none)) else (some (decide ((x0.length : Int) ≤ 32)))
def aA_.f (k : Nat) (l0 : List (S38)) : Option (Bool) := aA_.l0 k l0 l0 (l0.length : Int) 0
def aA_.T4 : Bool × List (List Nat × List Nat) := (true, [([], []), ([0], [0]), ([1], [1]), ([2, 1], [2]), ([3], [3]), ([4, 3], [3, 4]), ([5, 3, 3], [3, 5]), ([6], [6]), ([6], [6]), ([8, 6], [6, 8]), ([7, 9, 6], [6, 7, 9]), ([10, 6], [6, 10]), ([6], [6]), ([11, 12, 6, 6], [6, 11, 12]), ([13, 6], [6, 13]), ([6, 14, 3], [3, 6, 14]), ([3, 15], [3, 15])])
def aA_.B4 : List Nat := [0, 1, 3, 7, 15, 31, 63, 127, 127, 383, 1023, 2047, 127, 8191, 16383, 32767, 65535]
theorem aA_.tab4 : rtab .any (opsOf Tryz.f17 4) = aA_.T4 := by kernel_rfl
theorem aA_.bits4 : cC_ aA_.T4.2 aA_.B4 = true := by kernel_rfl
set_option maxHeartbeats 8000000 in
set_option maxRecDepth 100000 in
theorem aA_.calls (k : Nat) (A0 : Option Addr) (c0 : Nat) (l0 : List (S38)) (r : Bool) (w : World) (hr0 : Kd.C k38 w A0 l0.length l0) (hc0 : l0.length ≤ c0) (h : aA_.f k l0 = some r) :
  Calls Tryz.prog 17 #[.slice A0 l0.length c0] w fun e w' => e = .returned (.bool r) ∧ Below w.heap.size w w' := by
 have hu38 := Tryz.underlying38
 have HR0 := Aside0.mk hr0
 have HC0 := Aside0.mk hc0
 clear hr0 hc0
 have HB := Aside0.mk (Below.refl w.heap.size w)
 have H : (aA_.l0 k l0 l0 (l0.length : Int) 0) = some r := h
 clear h
 have H' := Aside0.mk H
 clear H
 go_enter Tryz.func17, Tryz.ntmps17
 go_wp2
 (try simp only [Act.put, lsa_, ls0_, ls1_])
 go_loopg [7] k (fun kq v7 w' => ∃ (x7_1 : Int), v7 = .int .i64 x7_1 ∧ Aside0 (aA_.l0 kq l0 l0 (l0.length : Int) x7_1 = some r) ∧ Aside0 (kq ≤ k) ∧ Aside0 (Below w.heap.size w w'))
 case atStart => exact ⟨(0), (by first | rfl | (simp; done) | (simp [*]; done)), H', ⟨Nat.le_refl _⟩, ⟨bz HB.out⟩⟩
 case round =>
  clear H'
  obtain ⟨x7_1, rfl, HA, HK1, HB⟩ := hrel
  cases gk with
  | zero => exact absurd HA.out (by simp [aA_.l0])
  | succ k1 =>
   have H := HA.out
   clear HA
   simp only [aA_.l0] at H
   by_cases c2 : x7_1 < (l0.length : Int)
   rotate_left
   ·rw [if_neg c2] at H
    have c2b0 : decide (x7_1 < (l0.length : Int)) = false := decide_eq_false c2
    clear c2
    obtain rfl := Option.some.inj H
    go_wp2
    go_ret
    exact ⟨by first | rfl | (simp [*, ai_, ah_] <;> rfl), bz HB.out⟩
   rw [if_pos c2] at H
   have c2b0 : decide (x7_1 < (l0.length : Int)) = true := decide_eq_true c2
   clear c2
   by_cases c3 : 0 ≤ x7_1
   rotate_left
   ·rw [if_neg c3] at H
    exact absurd H (by simp)
   rw [if_pos c3] at H
   have c3b0 : decide (0 ≤ x7_1) = true := decide_eq_true c3
   clear c3
   by_cases c4 : x7_1 < (l0.length : Int)
   rotate_left
   ·rw [if_neg c4] at H
    exact absurd H (by simp)
   rw [if_pos c4] at H
   have c4b0 : decide (x7_1 < (l0.length : Int)) = true := decide_eq_true c4
   clear c4
   replace H := Option.bind_eq_some_iff.mp H
   obtain ⟨t103, A50, H⟩ := H
   (try dsimp only at H)
   have A5 := Aside0.mk A50
   clear A50
   by_cases c6 : t103 = true
   rotate_left
   ·replace c6 := Bool.eq_false_iff.mpr c6
    subst c6
    have H1 : (some false) = some r := by rw [if_neg (show ¬ (false = true) by decide)] at H; exact H
    clear H
    have H := H1
    clear H1
    obtain rfl := Option.some.inj H
    have p101 : 0 ≤ (x7_1 : Int) := of_decide_eq_true (by assumption)
    have q101 : x7_1 < (l0.length : Int) := of_decide_eq_true (by assumption)
    obtain ⟨ad101, e101, hx101_0, hx101_1, hx101_2⟩ := bX_ HR0.out x7_1 p101 q101
    cases e101
    replace hx101_0 := bu_ HB.out hx101_0
    replace hx101_1 := bu_ HB.out hx101_1
    replace hx101_2 := bu_ HB.out hx101_2
    replace p101 := eq_true p101
    replace q101 := eq_true q101
    try go_wp2_with (first | ((with_reducible refine aI_ (N := 4) rfl ?_); refine aR_ ?hg (N := 4) ?hd (cs := #[.string (⟨#[]⟩ : ByteArray), .string (⟨#[]⟩ : ByteArray), .string (⟨#[]⟩ : ByteArray)]) (t := 38) ?hr ?_; (case hd => rfl); (case hg => rfl); (case hr => (go_simp; try rfl)); intro gb102 hg w25 hbox hb; have BK102 := Aside0.mk (hbox); have GW102 := Aside0.mk ((by rw [hg]; exact (ad_ (bz HB.out)) : w.heap.size ≤ gb102)); have GE102 := Aside0.mk ((by rw [hg]; exact (ad_ (bz HB.out)) : w.heap.size ≤ gb102)); replace HB := Aside0.mk (ac_ (bz HB.out) hb); clear hb hbox hg; obtain ⟨hcz26_0, hcz26_1, hcz26_2⟩ := cz3_ BK102.out; obtain ⟨hfz26_0, hfz26_1, hfz26_2⟩ := fz3_ BK102.out))
    have n0_ : Aside0 ((((w25.setCell ⟨gb102, 0, none⟩ (.string ((ag_ l0 x7_1).f0))).setCell ⟨gb102, 1, none⟩ (.string ((ag_ l0 x7_1).f1))).setCell ⟨gb102, 2, none⟩ (.string ((ag_ l0 x7_1).f2))).heap[gb102]? = some (.cells #[.string ((ag_ l0 x7_1).f0), .string ((ag_ l0 x7_1).f1), .string ((ag_ l0 x7_1).f2)] 38 (0, 0))) := ⟨by exact kj3_2 (kj3_1 (kj3_0 (kz BK102.out)))⟩
    have n1_ : Aside0 (Below w.heap.size w (((w25.setCell ⟨gb102, 0, none⟩ (.string ((ag_ l0 x7_1).f0))).setCell ⟨gb102, 1, none⟩ (.string ((ag_ l0 x7_1).f1))).setCell ⟨gb102, 2, none⟩ (.string ((ag_ l0 x7_1).f2)))) := ⟨by repeat (first | (with_reducible first | exact HB.out | apply bA_ | apply bN_ | apply bD_ | refine aa_ ?_ GE102.out))⟩
    (try clear BK102)
    (try clear HB)
    generalize (((w25.setCell ⟨gb102, 0, none⟩ (.string ((ag_ l0 x7_1).f0))).setCell ⟨gb102, 1, none⟩ (.string ((ag_ l0 x7_1).f1))).setCell ⟨gb102, 2, none⟩ (.string ((ag_ l0 x7_1).f2))) = w27 at n0_ n1_ ⊢
    have BK102 := n0_
    have HB := n1_
    clear n0_ n1_
    have n0_ := Aside0.mk (bH_ BK102.out)
    have n1_ := Aside0.mk (bD_ HB.out)
    clear BK102
    clear HB
    have BK102 := n0_
    have HB := n1_
    clear n0_ n1_
    refine start_ (n := 17) (S := fun w' => w'.cell? ⟨gb102, 0, none⟩ = some (.string ((ag_ l0 x7_1).f0)) ∧ w'.cell? ⟨gb102, 1, none⟩ = some (.string ((ag_ l0 x7_1).f1)) ∧ w'.cell? ⟨gb102, 2, none⟩ = some (.string ((ag_ l0 x7_1).f2))) (ds := []) #[f_,f_,f_,f_,f_,f_,f_,f_,f_,f_,f_,f_,f_,f_,f_,f_,f_] (by kernel_rfl) rfl rfl ⟨(am_ BK102.out 0).trans rfl, (am_ BK102.out 1).trans rfl, (am_ BK102.out 2).trans rfl⟩ (fun hHeld => ?_); refine cl_ aA_.tab4 aA_.bits4 (fun HT_ HW_ => ?_)
    generalize w27.drew = w28 at BK102 HB hHeld ⊢
    refine take_ (i := 0) (N := some 12) (v := ?_) (a' := ?_) #[t_,f_,f_,f_,f_,f_,f_,f_,f_,f_,f_,f_,f_,f_,f_,f_,f_] rfl rfl (bt_ HT_.out HW_.out (by kernel_rfl)) (fun _ _ _ h => h) (Or.inl ⟨by rfl, ?_⟩) hHeld ?_ ?_
    rotate_left
    ·rintro w' ⟨s0, s1, s2⟩
     go_simp
     with_reducible rfl
    rotate_left
    ·simp only [Act.put, lsa_, ls0_, ls1_, i64_w, i32_w]
     rfl
    refine one_ (i := 1) (N := some 13) #[t_,t_,f_,f_,f_,f_,f_,f_,f_,f_,f_,f_,f_,f_,f_,f_,f_] rfl rfl (ct_ HT_.out (by kernel_rfl)) (by decide) (fun K hK => ?_)
    (first | refine goes_ Tryz.func32 (by kernel_rfl) rfl #[.agg #[.string ((ag_ l0 x7_1).f0), .string ((ag_ l0 x7_1).f1), .string ((ag_ l0 x7_1).f2)]] (by rfl) rfl rfl (by first | rfl | (simp only [lma_, lmc_, lmn_]; first | done | rfl)) ?_ | refine RPW.df_ Tryz.func32 (by kernel_rfl) rfl #[.agg #[.string ((ag_ l0 x7_1).f0), .string ((ag_ l0 x7_1).f1), .string ((ag_ l0 x7_1).f2)]] (by rfl) rfl rfl rfl (by first | rfl | (simp only [lma_, lmc_, lmn_]; first | done | rfl)) ?_ | refine RPW.dg_ Tryz.func32 (by kernel_rfl) rfl #[.agg #[.string ((ag_ l0 x7_1).f0), .string ((ag_ l0 x7_1).f1), .string ((ag_ l0 x7_1).f2)]] (by rfl) rfl rfl rfl (by first | rfl | (simp only [lma_, lmc_, lmn_]; first | done | rfl)) ?_)
    with_reducible refine (ca_.calls k1 ((ag_ l0 x7_1).f0) ((ag_ l0 x7_1).f1) ((ag_ l0 x7_1).f2) false _ A5.out).mono ?_
    rintro e w29 ⟨rfl, hb⟩
    refine ⟨_, rfl, ?_⟩
    have n0_ := Aside0.mk (an_ (kz BK102.out) hb)
    have n1_ := Aside0.mk (ac_ (by repeat (first | (with_reducible first | exact HB.out | apply bA_ | apply bN_ | apply bD_ | refine aa_ ?_ GE102.out))) hb)
    clear BK102
    clear HB
    have BK102 := n0_
    have HB := n1_
    clear n0_ n1_
    (try clear hb)
    refine hK.out _ _ ⟨(am_ BK102.out 0).trans rfl, (am_ BK102.out 1).trans rfl, (am_ BK102.out 2).trans rfl⟩ (fun hHeld => ?_)
    clear hK K
    refine norm_ (a' := ?_) ?_ ?_
    rotate_left
    ·show Act.put _ (some 13) _ = _
     simp only [Act.put, lsa_, ls0_, ls1_, i64_w, i32_w]
     rfl
    refine pure_ (i := 2) (N := some 14) (v := ?_) (a' := ?_) #[t_,t_,t_,f_,f_,f_,f_,f_,f_,f_,f_,f_,f_,f_,f_,f_,f_] rfl rfl (aH_ HT_.out (by kernel_rfl)) (fun _ _ _ h => h) (Or.inl ⟨by rfl, ?_⟩) ?_ ?_
    rotate_left
    ·intro w'
     go_simp
     with_reducible rfl
    rotate_left
    ·simp only [Act.put, lsa_, ls0_, ls1_, i64_w, i32_w]
     rfl
    refine pure_ (i := 3) (N := some 15) (v := ?_) (a' := ?_) #[t_,t_,t_,t_,f_,f_,f_,f_,f_,f_,f_,f_,f_,f_,f_,f_,f_] rfl rfl (aH_ HT_.out (by kernel_rfl)) (fun _ _ _ h => h) (Or.inl ⟨by rfl, ?_⟩) ?_ ?_
    rotate_left
    ·intro w'
     go_simp
     with_reducible rfl
    rotate_left
    ·simp only [Act.put, lsa_, ls0_, ls1_, i64_w, i32_w]
     rfl
    refine pure_ (i := 4) (N := some 16) (v := undef) (a' := ?_) #[t_,t_,t_,t_,t_,f_,f_,f_,f_,f_,f_,f_,f_,f_,f_,f_,f_] rfl rfl (aH_ HT_.out (by kernel_rfl)) (fun _ _ _ h => h) (Or.inr ⟨by rfl, rfl⟩) ?_ ?_
    rotate_left
    ·simp only [Act.put, lsa_, ls0_, ls1_, i64_w, i32_w]
     rfl
    refine pure_ (i := 5) (N := some 17) (v := undef) (a' := ?_) #[t_,t_,t_,t_,t_,t_,f_,f_,f_,f_,f_,f_,f_,f_,f_,f_,f_] rfl rfl (aH_ HT_.out (by kernel_rfl)) (fun _ _ _ h => h) (Or.inr ⟨by rfl, rfl⟩) ?_ ?_
    rotate_left
    ·simp only [Act.put, lsa_, ls0_, ls1_, i64_w, i32_w]
     rfl
    refine pure_ (i := 6) (N := some 18) (v := undef) (a' := ?_) #[t_,t_,t_,t_,t_,t_,t_,f_,f_,f_,f_,f_,f_,f_,f_,f_,f_] rfl rfl (aH_ HT_.out (by kernel_rfl)) (fun _ _ _ h => h) (Or.inr ⟨by rfl, rfl⟩) ?_ ?_
    rotate_left
    ·simp only [Act.put, lsa_, ls0_, ls1_, i64_w, i32_w]
     rfl
    refine pure_ (i := 7) (N := some 19) (v := undef) (a' := ?_) #[t_,t_,t_,t_,t_,t_,t_,t_,f_,f_,f_,f_,f_,f_,f_,f_,f_] rfl rfl (aH_ HT_.out (by kernel_rfl)) (fun _ _ _ h => h) (Or.inr ⟨by rfl, rfl⟩) ?_ ?_
    rotate_left
    ·simp only [Act.put, lsa_, ls0_, ls1_, i64_w, i32_w]
     rfl
    refine pure_ (i := 8) (N := some 20) (v := undef) (a' := ?_) #[t_,t_,t_,t_,t_,t_,t_,t_,t_,f_,f_,f_,f_,f_,f_,f_,f_] rfl rfl (aH_ HT_.out (by kernel_rfl)) (fun _ _ _ h => h) (Or.inr ⟨by rfl, rfl⟩) ?_ ?_
    rotate_left
    ·simp only [Act.put, lsa_, ls0_, ls1_, i64_w, i32_w]
     rfl
    refine pure_ (i := 9) (N := some 21) (v := undef) (a' := ?_) #[t_,t_,t_,t_,t_,t_,t_,t_,t_,t_,f_,f_,f_,f_,f_,f_,f_] rfl rfl (aH_ HT_.out (by kernel_rfl)) (fun _ _ _ h => h) (Or.inr ⟨by rfl, rfl⟩) ?_ ?_
    rotate_left
    ·simp only [Act.put, lsa_, ls0_, ls1_, i64_w, i32_w]
     rfl
    refine pure_ (i := 10) (N := some 22) (v := undef) (a' := ?_) #[t_,t_,t_,t_,t_,t_,t_,t_,t_,t_,t_,f_,f_,f_,f_,f_,f_] rfl rfl (aH_ HT_.out (by kernel_rfl)) (fun _ _ _ h => h) (Or.inr ⟨by rfl, rfl⟩) ?_ ?_
    rotate_left
    ·simp only [Act.put, lsa_, ls0_, ls1_, i64_w, i32_w]
     rfl
    refine pure_ (i := 11) (N := some 23) (v := undef) (a' := ?_) #[t_,t_,t_,t_,t_,t_,t_,t_,t_,t_,t_,t_,f_,f_,f_,f_,f_] rfl rfl (aH_ HT_.out (by kernel_rfl)) (fun _ _ _ h => h) (Or.inr ⟨by rfl, rfl⟩) ?_ ?_
    rotate_left
    ·simp only [Act.put, lsa_, ls0_, ls1_, i64_w, i32_w]
     rfl
    refine pure_ (i := 12) (N := some 24) (v := undef) (a' := ?_) #[t_,t_,t_,t_,t_,t_,t_,t_,t_,t_,t_,t_,t_,f_,f_,f_,f_] rfl rfl (aH_ HT_.out (by kernel_rfl)) (fun _ _ _ h => h) (Or.inr ⟨by rfl, rfl⟩) ?_ ?_
    rotate_left
    ·simp only [Act.put, lsa_, ls0_, ls1_, i64_w, i32_w]
     rfl
    refine pure_ (i := 13) (N := some 25) (v := undef) (a' := ?_) #[t_,t_,t_,t_,t_,t_,t_,t_,t_,t_,t_,t_,t_,t_,f_,f_,f_] rfl rfl (aH_ HT_.out (by kernel_rfl)) (fun _ _ _ h => h) (Or.inr ⟨by rfl, rfl⟩) ?_ ?_
    rotate_left
    ·simp only [Act.put, lsa_, ls0_, ls1_, i64_w, i32_w]
     rfl
    refine pure_ (i := 14) (N := some 26) (v := undef) (a' := ?_) #[t_,t_,t_,t_,t_,t_,t_,t_,t_,t_,t_,t_,t_,t_,t_,f_,f_] rfl rfl (aH_ HT_.out (by kernel_rfl)) (fun _ _ _ h => h) (Or.inr ⟨by rfl, rfl⟩) ?_ ?_
    rotate_left
    ·simp only [Act.put, lsa_, ls0_, ls1_, i64_w, i32_w]
     rfl
    refine pure_ (i := 15) (N := some 27) (v := undef) (a' := ?_) #[t_,t_,t_,t_,t_,t_,t_,t_,t_,t_,t_,t_,t_,t_,t_,t_,f_] rfl rfl (aH_ HT_.out (by kernel_rfl)) (fun _ _ _ h => h) (Or.inr ⟨by rfl, rfl⟩) ?_ ?_
    rotate_left
    ·simp only [Act.put, lsa_, ls0_, ls1_, i64_w, i32_w]
     rfl
    refine pure_ (i := 16) (N := some 28) (v := ?_) (a' := ?_) #[t_,t_,t_,t_,t_,t_,t_,t_,t_,t_,t_,t_,t_,t_,t_,t_,t_] rfl rfl (aH_ HT_.out (by kernel_rfl)) (fun _ _ _ h => h) (Or.inl ⟨by rfl, ?_⟩) ?_ ?_
    rotate_left
    ·intro w'
     go_simp
     with_reducible rfl
    rotate_left
    ·simp only [Act.put, lsa_, ls0_, ls1_, i64_w, i32_w]
     rfl
    refine done_ (cN_ HT_.out (by kernel_rfl)) ?_
    try go_wp2
    go_ret
    exact ⟨by first | rfl | (simp [*, ai_, ah_] <;> rfl), by repeat (first | (with_reducible first | exact HB.out | apply bA_ | apply bN_ | apply bD_ | refine aa_ ?_ GE102.out))⟩
   subst c6
   have H1 : (if x7_1 > 0 then (if 0 ≤ (wrap64 (x7_1 - 1)) then (if (wrap64 (x7_1 - 1)) < (l0.length : Int) then ((bV_.f ((ag_ l0 (wrap64 (x7_1 - 1))).f0) ((ag_ l0 (wrap64 (x7_1 - 1))).f1) ((ag_ l0 (wrap64 (x7_1 - 1))).f2) ((ag_ l0 x7_1).f0) ((ag_ l0 x7_1).f1) ((ag_ l0 x7_1).f2)).bind fun t105 => (if t105 ≥ 0 then (some false) else (aA_.l0 k1 l0 l0 (l0.length : Int) (wrap64 (x7_1 + 1))))) else (none)) else (none)) else (aA_.l0 k1 l0 l0 (l0.length : Int) (wrap64 (x7_1 + 1)))) = some r := by rw [if_pos rfl] at H; exact H
   clear H
   have H := H1
   clear H1
   by_cases c7 : x7_1 > 0
   rotate_left
   ·rw [if_neg c7] at H
    have c7b0 : decide (0 < x7_1) = false := decide_eq_false c7
    clear c7
    have H' := Aside0.mk H
    clear H
    have p101 : 0 ≤ (x7_1 : Int) := of_decide_eq_true (by assumption)
    have q101 : x7_1 < (l0.length : Int) := of_decide_eq_true (by assumption)
    obtain ⟨ad101, e101, hx101_0, hx101_1, hx101_2⟩ := bX_ HR0.out x7_1 p101 q101
    cases e101
    replace hx101_0 := bu_ HB.out hx101_0
    replace hx101_1 := bu_ HB.out hx101_1
    replace hx101_2 := bu_ HB.out hx101_2
    replace p101 := eq_true p101
    replace q101 := eq_true q101
    try go_wp2_with (first | ((with_reducible refine aI_ (N := 4) rfl ?_); refine aR_ ?hg (N := 4) ?hd (cs := #[.string (⟨#[]⟩ : ByteArray), .string (⟨#[]⟩ : ByteArray), .string (⟨#[]⟩ : ByteArray)]) (t := 38) ?hr ?_; (case hd => rfl); (case hg => rfl); (case hr => (go_simp; try rfl)); intro gb102 hg w20 hbox hb; have BK102 := Aside0.mk (hbox); have GW102 := Aside0.mk ((by rw [hg]; exact (ad_ (bz HB.out)) : w.heap.size ≤ gb102)); have GE102 := Aside0.mk ((by rw [hg]; exact (ad_ (bz HB.out)) : w.heap.size ≤ gb102)); replace HB := Aside0.mk (ac_ (bz HB.out) hb); clear hb hbox hg; obtain ⟨hcz21_0, hcz21_1, hcz21_2⟩ := cz3_ BK102.out; obtain ⟨hfz21_0, hfz21_1, hfz21_2⟩ := fz3_ BK102.out))
    have n0_ : Aside0 ((((w20.setCell ⟨gb102, 0, none⟩ (.string ((ag_ l0 x7_1).f0))).setCell ⟨gb102, 1, none⟩ (.string ((ag_ l0 x7_1).f1))).setCell ⟨gb102, 2, none⟩ (.string ((ag_ l0 x7_1).f2))).heap[gb102]? = some (.cells #[.string ((ag_ l0 x7_1).f0), .string ((ag_ l0 x7_1).f1), .string ((ag_ l0 x7_1).f2)] 38 (0, 0))) := ⟨by exact kj3_2 (kj3_1 (kj3_0 (kz BK102.out)))⟩
    have n1_ : Aside0 (Below w.heap.size w (((w20.setCell ⟨gb102, 0, none⟩ (.string ((ag_ l0 x7_1).f0))).setCell ⟨gb102, 1, none⟩ (.string ((ag_ l0 x7_1).f1))).setCell ⟨gb102, 2, none⟩ (.string ((ag_ l0 x7_1).f2)))) := ⟨by repeat (first | (with_reducible first | exact HB.out | apply bA_ | apply bN_ | apply bD_ | refine aa_ ?_ GE102.out))⟩
    (try clear BK102)
    (try clear HB)
    generalize (((w20.setCell ⟨gb102, 0, none⟩ (.string ((ag_ l0 x7_1).f0))).setCell ⟨gb102, 1, none⟩ (.string ((ag_ l0 x7_1).f1))).setCell ⟨gb102, 2, none⟩ (.string ((ag_ l0 x7_1).f2))) = w22 at n0_ n1_ ⊢
    have BK102 := n0_
    have HB := n1_
    clear n0_ n1_
    have n0_ := Aside0.mk (bH_ BK102.out)
    have n1_ := Aside0.mk (bD_ HB.out)
    clear BK102
    clear HB
    have BK102 := n0_
    have HB := n1_
    clear n0_ n1_
    refine start_ (n := 17) (S := fun w' => w'.cell? ⟨gb102, 0, none⟩ = some (.string ((ag_ l0 x7_1).f0)) ∧ w'.cell? ⟨gb102, 1, none⟩ = some (.string ((ag_ l0 x7_1).f1)) ∧ w'.cell? ⟨gb102, 2, none⟩ = some (.string ((ag_ l0 x7_1).f2))) (ds := []) #[f_,f_,f_,f_,f_,f_,f_,f_,f_,f_,f_,f_,f_,f_,f_,f_,f_] (by kernel_rfl) rfl rfl ⟨(am_ BK102.out 0).trans rfl, (am_ BK102.out 1).trans rfl, (am_ BK102.out 2).trans rfl⟩ (fun hHeld => ?_); refine cl_ aA_.tab4 aA_.bits4 (fun HT_ HW_ => ?_)
    generalize w22.drew = w23 at BK102 HB hHeld ⊢
    refine take_ (i := 0) (N := some 12) (v := ?_) (a' := ?_) #[t_,f_,f_,f_,f_,f_,f_,f_,f_,f_,f_,f_,f_,f_,f_,f_,f_] rfl rfl (bt_ HT_.out HW_.out (by kernel_rfl)) (fun _ _ _ h => h) (Or.inl ⟨by rfl, ?_⟩) hHeld ?_ ?_
    rotate_left
    ·rintro w' ⟨s0, s1, s2⟩
     go_simp
     with_reducible rfl
    rotate_left
    ·simp only [Act.put, lsa_, ls0_, ls1_, i64_w, i32_w]
     rfl
    refine one_ (i := 1) (N := some 13) #[t_,t_,f_,f_,f_,f_,f_,f_,f_,f_,f_,f_,f_,f_,f_,f_,f_] rfl rfl (ct_ HT_.out (by kernel_rfl)) (by decide) (fun K hK => ?_)
    (first | refine goes_ Tryz.func32 (by kernel_rfl) rfl #[.agg #[.string ((ag_ l0 x7_1).f0), .string ((ag_ l0 x7_1).f1), .string ((ag_ l0 x7_1).f2)]] (by rfl) rfl rfl (by first | rfl | (simp only [lma_, lmc_, lmn_]; first | done | rfl)) ?_ | refine RPW.df_ Tryz.func32 (by kernel_rfl) rfl #[.agg #[.string ((ag_ l0 x7_1).f0), .string ((ag_ l0 x7_1).f1), .string ((ag_ l0 x7_1).f2)]] (by rfl) rfl rfl rfl (by first | rfl | (simp only [lma_, lmc_, lmn_]; first | done | rfl)) ?_ | refine RPW.dg_ Tryz.func32 (by kernel_rfl) rfl #[.agg #[.string ((ag_ l0 x7_1).f0), .string ((ag_ l0 x7_1).f1), .string ((ag_ l0 x7_1).f2)]] (by rfl) rfl rfl rfl (by first | rfl | (simp only [lma_, lmc_, lmn_]; first | done | rfl)) ?_)
    with_reducible refine (ca_.calls k1 ((ag_ l0 x7_1).f0) ((ag_ l0 x7_1).f1) ((ag_ l0 x7_1).f2) true _ A5.out).mono ?_
    rintro e w24 ⟨rfl, hb⟩
    refine ⟨_, rfl, ?_⟩
    have n0_ := Aside0.mk (an_ (kz BK102.out) hb)
    have n1_ := Aside0.mk (ac_ (by repeat (first | (with_reducible first | exact HB.out | apply bA_ | apply bN_ | apply bD_ | refine aa_ ?_ GE102.out))) hb)
    clear BK102
    clear HB
    have BK102 := n0_
    have HB := n1_
    clear n0_ n1_
    (try clear hb)
    refine hK.out _ _ ⟨(am_ BK102.out 0).trans rfl, (am_ BK102.out 1).trans rfl, (am_ BK102.out 2).trans rfl⟩ (fun hHeld => ?_)
    clear hK K
    refine norm_ (a' := ?_) ?_ ?_
    rotate_left
    ·show Act.put _ (some 13) _ = _
     simp only [Act.put, lsa_, ls0_, ls1_, i64_w, i32_w]
     rfl
    refine pure_ (i := 2) (N := some 14) (v := ?_) (a' := ?_) #[t_,t_,t_,f_,f_,f_,f_,f_,f_,f_,f_,f_,f_,f_,f_,f_,f_] rfl rfl (aH_ HT_.out (by kernel_rfl)) (fun _ _ _ h => h) (Or.inl ⟨by rfl, ?_⟩) ?_ ?_
    rotate_left
    ·intro w'
     go_simp
     with_reducible rfl
    rotate_left
    ·simp only [Act.put, lsa_, ls0_, ls1_, i64_w, i32_w]
     rfl
    refine pure_ (i := 3) (N := some 15) (v := ?_) (a' := ?_) #[t_,t_,t_,t_,f_,f_,f_,f_,f_,f_,f_,f_,f_,f_,f_,f_,f_] rfl rfl (aH_ HT_.out (by kernel_rfl)) (fun _ _ _ h => h) (Or.inl ⟨by rfl, ?_⟩) ?_ ?_
    rotate_left
    ·intro w'
     go_simp
     with_reducible rfl
    rotate_left
    ·simp only [Act.put, lsa_, ls0_, ls1_, i64_w, i32_w]
     rfl
    refine pure_ (i := 4) (N := some 16) (v := ?_) (a' := ?_) #[t_,t_,t_,t_,t_,f_,f_,f_,f_,f_,f_,f_,f_,f_,f_,f_,f_] rfl rfl (aH_ HT_.out (by kernel_rfl)) (fun _ _ _ h => h) (Or.inl ⟨by rfl, ?_⟩) ?_ ?_
    rotate_left
    ·intro w'
     go_simp
     with_reducible rfl
    rotate_left
    ·simp only [Act.put, lsa_, ls0_, ls1_, i64_w, i32_w]
     rfl
    refine pure_ (i := 5) (N := some 17) (v := ?_) (a' := ?_) #[t_,t_,t_,t_,t_,t_,f_,f_,f_,f_,f_,f_,f_,f_,f_,f_,f_] rfl rfl (aH_ HT_.out (by kernel_rfl)) (fun _ _ _ h => h) (Or.inl ⟨by rfl, ?_⟩) ?_ ?_
    rotate_left
    ·intro w'
     go_simp
     with_reducible rfl
    rotate_left
    ·simp only [Act.put, lsa_, ls0_, ls1_, i64_w, i32_w]
     rfl
    refine pure_ (i := 6) (N := some 18) (v := ?_) (a' := ?_) #[t_,t_,t_,t_,t_,t_,t_,f_,f_,f_,f_,f_,f_,f_,f_,f_,f_] rfl rfl (aH_ HT_.out (by kernel_rfl)) (fun _ _ _ h => h) (Or.inl ⟨by rfl, ?_⟩) ?_ ?_
    rotate_left
    ·intro w'
     go_simp
     with_reducible rfl
    rotate_left
    ·simp only [Act.put, lsa_, ls0_, ls1_, i64_w, i32_w]
     rfl
    refine pure_ (i := 7) (N := some 19) (v := undef) (a' := ?_) #[t_,t_,t_,t_,t_,t_,t_,t_,f_,f_,f_,f_,f_,f_,f_,f_,f_] rfl rfl (aH_ HT_.out (by kernel_rfl)) (fun _ _ _ h => h) (Or.inr ⟨by rfl, rfl⟩) ?_ ?_
    rotate_left
    ·simp only [Act.put, lsa_, ls0_, ls1_, i64_w, i32_w]
     rfl
    refine pure_ (i := 8) (N := some 20) (v := undef) (a' := ?_) #[t_,t_,t_,t_,t_,t_,t_,t_,t_,f_,f_,f_,f_,f_,f_,f_,f_] rfl rfl (aH_ HT_.out (by kernel_rfl)) (fun _ _ _ h => h) (Or.inr ⟨by rfl, rfl⟩) ?_ ?_
    rotate_left
    ·simp only [Act.put, lsa_, ls0_, ls1_, i64_w, i32_w]
     rfl
    refine pure_ (i := 9) (N := some 21) (v := undef) (a' := ?_) #[t_,t_,t_,t_,t_,t_,t_,t_,t_,t_,f_,f_,f_,f_,f_,f_,f_] rfl rfl (aH_ HT_.out (by kernel_rfl)) (fun _ _ _ h => h) (Or.inr ⟨by rfl, rfl⟩) ?_ ?_
    rotate_left
    ·simp only [Act.put, lsa_, ls0_, ls1_, i64_w, i32_w]
     rfl
    refine pure_ (i := 10) (N := some 22) (v := undef) (a' := ?_) #[t_,t_,t_,t_,t_,t_,t_,t_,t_,t_,t_,f_,f_,f_,f_,f_,f_] rfl rfl (aH_ HT_.out (by kernel_rfl)) (fun _ _ _ h => h) (Or.inr ⟨by rfl, rfl⟩) ?_ ?_
    rotate_left
    ·simp only [Act.put, lsa_, ls0_, ls1_, i64_w, i32_w]
     rfl
    refine pure_ (i := 11) (N := some 23) (v := undef) (a' := ?_) #[t_,t_,t_,t_,t_,t_,t_,t_,t_,t_,t_,t_,f_,f_,f_,f_,f_] rfl rfl (aH_ HT_.out (by kernel_rfl)) (fun _ _ _ h => h) (Or.inr ⟨by rfl, rfl⟩) ?_ ?_
    rotate_left
    ·simp only [Act.put, lsa_, ls0_, ls1_, i64_w, i32_w]
     rfl
    refine pure_ (i := 12) (N := some 24) (v := undef) (a' := ?_) #[t_,t_,t_,t_,t_,t_,t_,t_,t_,t_,t_,t_,t_,f_,f_,f_,f_] rfl rfl (aH_ HT_.out (by kernel_rfl)) (fun _ _ _ h => h) (Or.inr ⟨by rfl, rfl⟩) ?_ ?_
    rotate_left
    ·simp only [Act.put, lsa_, ls0_, ls1_, i64_w, i32_w]
     rfl
    refine pure_ (i := 13) (N := some 25) (v := undef) (a' := ?_) #[t_,t_,t_,t_,t_,t_,t_,t_,t_,t_,t_,t_,t_,t_,f_,f_,f_] rfl rfl (aH_ HT_.out (by kernel_rfl)) (fun _ _ _ h => h) (Or.inr ⟨by rfl, rfl⟩) ?_ ?_
    rotate_left
    ·simp only [Act.put, lsa_, ls0_, ls1_, i64_w, i32_w]
     rfl
    refine pure_ (i := 14) (N := some 26) (v := undef) (a' := ?_) #[t_,t_,t_,t_,t_,t_,t_,t_,t_,t_,t_,t_,t_,t_,t_,f_,f_] rfl rfl (aH_ HT_.out (by kernel_rfl)) (fun _ _ _ h => h) (Or.inr ⟨by rfl, rfl⟩) ?_ ?_
    rotate_left
    ·simp only [Act.put, lsa_, ls0_, ls1_, i64_w, i32_w]
     rfl
    refine pure_ (i := 15) (N := some 27) (v := ?_) (a' := ?_) #[t_,t_,t_,t_,t_,t_,t_,t_,t_,t_,t_,t_,t_,t_,t_,t_,f_] rfl rfl (aH_ HT_.out (by kernel_rfl)) (fun _ _ _ h => h) (Or.inl ⟨by rfl, ?_⟩) ?_ ?_
    rotate_left
    ·intro w'
     go_simp
     with_reducible rfl
    rotate_left
    ·simp only [Act.put, lsa_, ls0_, ls1_, i64_w, i32_w]
     rfl
    refine pure_ (i := 16) (N := some 28) (v := ?_) (a' := ?_) #[t_,t_,t_,t_,t_,t_,t_,t_,t_,t_,t_,t_,t_,t_,t_,t_,t_] rfl rfl (aH_ HT_.out (by kernel_rfl)) (fun _ _ _ h => h) (Or.inl ⟨by rfl, ?_⟩) ?_ ?_
    rotate_left
    ·intro w'
     go_simp
     with_reducible rfl
    rotate_left
    ·simp only [Act.put, lsa_, ls0_, ls1_, i64_w, i32_w]
     rfl
    refine done_ (cN_ HT_.out (by kernel_rfl)) ?_
    try go_wp2
    go_roundg k1
    case measure => have := HK1.out; omega
    case rel => exact ⟨(wrap64 (x7_1 + 1)), (by first | rfl | (simp; done) | (simp [*]; done)), H', ⟨by have := HK1.out; omega⟩, ⟨by repeat (first | (with_reducible first | exact HB.out | apply bA_ | apply bN_ | apply bD_ | refine aa_ ?_ GE102.out))⟩⟩
   rw [if_pos c7] at H
   have c7b0 : decide (0 < x7_1) = true := decide_eq_true c7
   clear c7
   obtain ⟨ji8, hji8⟩ : ∃ j_ : Int, (wrap64 (x7_1 - 1)) = j_ := ⟨_, rfl⟩
   replace H : (if 0 ≤ (ji8) then (if (ji8) < (l0.length : Int) then ((bV_.f ((ag_ l0 (ji8)).f0) ((ag_ l0 (ji8)).f1) ((ag_ l0 (ji8)).f2) ((ag_ l0 x7_1).f0) ((ag_ l0 x7_1).f1) ((ag_ l0 x7_1).f2)).bind fun t105 => (if t105 ≥ 0 then (some false) else (aA_.l0 k1 l0 l0 (l0.length : Int) (wrap64 (x7_1 + 1))))) else (none)) else (none)) = some r := by first | (rw [hji8] at H; exact H) | (simp only [hji8] at H ⊢; exact H)
   (try rw [hji8] at A5)
   have hji8w : (IntKind.i64.wrap (x7_1 - 1)) = ji8 := (i64_w _).trans hji8
   by_cases c9 : 0 ≤ (ji8)
   rotate_left
   ·rw [if_neg c9] at H
    exact absurd H (by simp)
   rw [if_pos c9] at H
   have c9b0 : decide (0 ≤ (ji8)) = true := decide_eq_true c9
   clear c9
   by_cases c10 : (ji8) < (l0.length : Int)
   rotate_left
   ·rw [if_neg c10] at H
    exact absurd H (by simp)
   rw [if_pos c10] at H
   have c10b0 : decide ((ji8) < (l0.length : Int)) = true := decide_eq_true c10
   clear c10
   replace H := Option.bind_eq_some_iff.mp H
   obtain ⟨t105, A110, H⟩ := H
   (try dsimp only at H)
   have A11 := Aside0.mk A110
   clear A110
   have HC12 := Aside0.mk H
   clear H
   have p101 : 0 ≤ (x7_1 : Int) := of_decide_eq_true (by assumption)
   have q101 : x7_1 < (l0.length : Int) := of_decide_eq_true (by assumption)
   obtain ⟨ad101, e101, hx101_0, hx101_1, hx101_2⟩ := bX_ HR0.out x7_1 p101 q101
   cases e101
   replace hx101_0 := bu_ HB.out hx101_0
   replace hx101_1 := bu_ HB.out hx101_1
   replace hx101_2 := bu_ HB.out hx101_2
   replace p101 := eq_true p101
   replace q101 := eq_true q101
   try go_wp2_with (first | ((with_reducible refine aI_ (N := 4) rfl ?_); refine aR_ ?hg (N := 4) ?hd (cs := #[.string (⟨#[]⟩ : ByteArray), .string (⟨#[]⟩ : ByteArray), .string (⟨#[]⟩ : ByteArray)]) (t := 38) ?hr ?_; (case hd => rfl); (case hg => rfl); (case hr => (go_simp; try rfl)); intro gb102 hg w13 hbox hb; have BK102 := Aside0.mk (hbox); have GW102 := Aside0.mk ((by rw [hg]; exact (ad_ (bz HB.out)) : w.heap.size ≤ gb102)); have GE102 := Aside0.mk ((by rw [hg]; exact (ad_ (bz HB.out)) : w.heap.size ≤ gb102)); replace HB := Aside0.mk (ac_ (bz HB.out) hb); clear hb hbox hg; obtain ⟨hcz14_0, hcz14_1, hcz14_2⟩ := cz3_ BK102.out; obtain ⟨hfz14_0, hfz14_1, hfz14_2⟩ := fz3_ BK102.out))
   have n0_ : Aside0 ((((w13.setCell ⟨gb102, 0, none⟩ (.string ((ag_ l0 x7_1).f0))).setCell ⟨gb102, 1, none⟩ (.string ((ag_ l0 x7_1).f1))).setCell ⟨gb102, 2, none⟩ (.string ((ag_ l0 x7_1).f2))).heap[gb102]? = some (.cells #[.string ((ag_ l0 x7_1).f0), .string ((ag_ l0 x7_1).f1), .string ((ag_ l0 x7_1).f2)] 38 (0, 0))) := ⟨by exact kj3_2 (kj3_1 (kj3_0 (kz BK102.out)))⟩
   have n1_ : Aside0 (Below w.heap.size w (((w13.setCell ⟨gb102, 0, none⟩ (.string ((ag_ l0 x7_1).f0))).setCell ⟨gb102, 1, none⟩ (.string ((ag_ l0 x7_1).f1))).setCell ⟨gb102, 2, none⟩ (.string ((ag_ l0 x7_1).f2)))) := ⟨by repeat (first | (with_reducible first | exact HB.out | apply bA_ | apply bN_ | apply bD_ | refine aa_ ?_ GE102.out))⟩
   (try clear BK102)
   (try clear HB)
   generalize (((w13.setCell ⟨gb102, 0, none⟩ (.string ((ag_ l0 x7_1).f0))).setCell ⟨gb102, 1, none⟩ (.string ((ag_ l0 x7_1).f1))).setCell ⟨gb102, 2, none⟩ (.string ((ag_ l0 x7_1).f2))) = w15 at n0_ n1_ ⊢
   have BK102 := n0_
   have HB := n1_
   clear n0_ n1_
   have n0_ := Aside0.mk (bH_ BK102.out)
   have n1_ := Aside0.mk (bD_ HB.out)
   clear BK102
   clear HB
   have BK102 := n0_
   have HB := n1_
   clear n0_ n1_
   have p104 : 0 ≤ ((ji8) : Int) := of_decide_eq_true (by assumption)
   have q104 : (ji8) < (l0.length : Int) := of_decide_eq_true (by assumption)
   obtain ⟨ad104, e104, hx104_0, hx104_1, hx104_2⟩ := bX_ HR0.out (ji8) p104 q104
   have hw104_2 := hx104_2
   have hw104_1 := hx104_1
   have hw104_0 := hx104_0
   obtain rfl : ad101 = ad104 := (by injection e104)
   replace hx104_0 := bu_ HB.out hx104_0
   replace hx104_1 := bu_ HB.out hx104_1
   replace hx104_2 := bu_ HB.out hx104_2
   replace p104 := eq_true p104
   replace q104 := eq_true q104
   refine start_ (n := 17) (S := fun w' => w'.cell? ⟨gb102, 0, none⟩ = some (.string ((ag_ l0 x7_1).f0)) ∧ w'.cell? ⟨gb102, 1, none⟩ = some (.string ((ag_ l0 x7_1).f1)) ∧ w'.cell? ⟨gb102, 2, none⟩ = some (.string ((ag_ l0 x7_1).f2)) ∧ w'.cell? (ad101.add (((ji8)).toNat * 3)) = some (.string ((ag_ l0 (ji8)).f0)) ∧ w'.cell? ⟨(ad101.add (((ji8)).toNat * 3)).block, (ad101.add (((ji8)).toNat * 3)).off + 1, none⟩ = some (.string ((ag_ l0 (ji8)).f1)) ∧ w'.cell? ⟨(ad101.add (((ji8)).toNat * 3)).block, (ad101.add (((ji8)).toNat * 3)).off + 2, none⟩ = some (.string ((ag_ l0 (ji8)).f2))) (ds := []) #[f_,f_,f_,f_,f_,f_,f_,f_,f_,f_,f_,f_,f_,f_,f_,f_,f_] (by kernel_rfl) rfl rfl ⟨(am_ BK102.out 0).trans rfl, (am_ BK102.out 1).trans rfl, (am_ BK102.out 2).trans rfl, (bu_ HB.out hw104_0), (bu_ HB.out hw104_1), (bu_ HB.out hw104_2)⟩ (fun hHeld => ?_); refine cl_ aA_.tab4 aA_.bits4 (fun HT_ HW_ => ?_)
   generalize w15.drew = w16 at BK102 HB hx104_0 hx104_1 hx104_2 hHeld ⊢
   refine take_ (i := 0) (N := some 12) (v := ?_) (a' := ?_) #[t_,f_,f_,f_,f_,f_,f_,f_,f_,f_,f_,f_,f_,f_,f_,f_,f_] rfl rfl (bt_ HT_.out HW_.out (by kernel_rfl)) (fun _ _ _ h => h) (Or.inl ⟨by rfl, ?_⟩) hHeld ?_ ?_
   rotate_left
   ·rintro w' ⟨s0, s1, s2, s3, s4, s5⟩
    go_simp
    with_reducible rfl
   rotate_left
   ·simp only [Act.put, lsa_, ls0_, ls1_, i64_w, i32_w]
    rfl
   refine one_ (i := 1) (N := some 13) #[t_,t_,f_,f_,f_,f_,f_,f_,f_,f_,f_,f_,f_,f_,f_,f_,f_] rfl rfl (ct_ HT_.out (by kernel_rfl)) (by decide) (fun K hK => ?_)
   (first | refine goes_ Tryz.func32 (by kernel_rfl) rfl #[.agg #[.string ((ag_ l0 x7_1).f0), .string ((ag_ l0 x7_1).f1), .string ((ag_ l0 x7_1).f2)]] (by rfl) rfl rfl (by first | rfl | (simp only [lma_, lmc_, lmn_]; first | done | rfl)) ?_ | refine RPW.df_ Tryz.func32 (by kernel_rfl) rfl #[.agg #[.string ((ag_ l0 x7_1).f0), .string ((ag_ l0 x7_1).f1), .string ((ag_ l0 x7_1).f2)]] (by rfl) rfl rfl rfl (by first | rfl | (simp only [lma_, lmc_, lmn_]; first | done | rfl)) ?_ | refine RPW.dg_ Tryz.func32 (by kernel_rfl) rfl #[.agg #[.string ((ag_ l0 x7_1).f0), .string ((ag_ l0 x7_1).f1), .string ((ag_ l0 x7_1).f2)]] (by rfl) rfl rfl rfl (by first | rfl | (simp only [lma_, lmc_, lmn_]; first | done | rfl)) ?_)
   with_reducible refine (ca_.calls k1 ((ag_ l0 x7_1).f0) ((ag_ l0 x7_1).f1) ((ag_ l0 x7_1).f2) true _ A5.out).mono ?_
   rintro e w17 ⟨rfl, hb⟩
   refine ⟨_, rfl, ?_⟩
   have n0_ := Aside0.mk (an_ (kz BK102.out) hb)
   have n1_ := Aside0.mk (ac_ (by repeat (first | (with_reducible first | exact HB.out | apply bA_ | apply bN_ | apply bD_ | refine aa_ ?_ GE102.out))) hb)
   clear BK102
   clear HB
   have BK102 := n0_
   have HB := n1_
   clear n0_ n1_
   (try clear hb)
   refine hK.out _ _ ⟨(am_ BK102.out 0).trans rfl, (am_ BK102.out 1).trans rfl, (am_ BK102.out 2).trans rfl, (bu_ HB.out hw104_0), (bu_ HB.out hw104_1), (bu_ HB.out hw104_2)⟩ (fun hHeld => ?_)
   clear hK K
   refine norm_ (a' := ?_) ?_ ?_
   rotate_left
   ·show Act.put _ (some 13) _ = _
    simp only [Act.put, lsa_, ls0_, ls1_, i64_w, i32_w]
    rfl
   refine pure_ (i := 2) (N := some 14) (v := ?_) (a' := ?_) #[t_,t_,t_,f_,f_,f_,f_,f_,f_,f_,f_,f_,f_,f_,f_,f_,f_] rfl rfl (aH_ HT_.out (by kernel_rfl)) (fun _ _ _ h => h) (Or.inl ⟨by rfl, ?_⟩) ?_ ?_
   rotate_left
   ·intro w'
    go_simp
    with_reducible rfl
   rotate_left
   ·simp only [Act.put, lsa_, ls0_, ls1_, i64_w, i32_w]
    rfl
   refine pure_ (i := 3) (N := some 15) (v := ?_) (a' := ?_) #[t_,t_,t_,t_,f_,f_,f_,f_,f_,f_,f_,f_,f_,f_,f_,f_,f_] rfl rfl (aH_ HT_.out (by kernel_rfl)) (fun _ _ _ h => h) (Or.inl ⟨by rfl, ?_⟩) ?_ ?_
   rotate_left
   ·intro w'
    go_simp
    with_reducible rfl
   rotate_left
   ·simp only [Act.put, lsa_, ls0_, ls1_, i64_w, i32_w]
    rfl
   refine pure_ (i := 4) (N := some 16) (v := ?_) (a' := ?_) #[t_,t_,t_,t_,t_,f_,f_,f_,f_,f_,f_,f_,f_,f_,f_,f_,f_] rfl rfl (aH_ HT_.out (by kernel_rfl)) (fun _ _ _ h => h) (Or.inl ⟨by rfl, ?_⟩) ?_ ?_
   rotate_left
   ·intro w'
    go_simp
    with_reducible rfl
   rotate_left
   ·simp only [Act.put, lsa_, ls0_, ls1_, i64_w, i32_w]
    rfl
   refine pure_ (i := 5) (N := some 17) (v := ?_) (a' := ?_) #[t_,t_,t_,t_,t_,t_,f_,f_,f_,f_,f_,f_,f_,f_,f_,f_,f_] rfl rfl (aH_ HT_.out (by kernel_rfl)) (fun _ _ _ h => h) (Or.inl ⟨by rfl, ?_⟩) ?_ ?_
   rotate_left
   ·intro w'
    go_simp
    with_reducible rfl
   rotate_left
   ·simp only [Act.put, lsa_, ls0_, ls1_, i64_w, i32_w]
    rfl
   refine pure_ (i := 6) (N := some 18) (v := ?_) (a' := ?_) #[t_,t_,t_,t_,t_,t_,t_,f_,f_,f_,f_,f_,f_,f_,f_,f_,f_] rfl rfl (aH_ HT_.out (by kernel_rfl)) (fun _ _ _ h => h) (Or.inl ⟨by rfl, ?_⟩) ?_ ?_
   rotate_left
   ·intro w'
    go_simp
    with_reducible rfl
   rotate_left
   ·simp only [Act.put, lsa_, ls0_, ls1_, i64_w, i32_w]
    rfl
   refine pure_ (i := 7) (N := some 19) (v := ?_) (a' := ?_) #[t_,t_,t_,t_,t_,t_,t_,t_,f_,f_,f_,f_,f_,f_,f_,f_,f_] rfl rfl (aH_ HT_.out (by kernel_rfl)) (fun _ _ _ h => h) (Or.inl ⟨by rfl, ?_⟩) ?_ ?_
   rotate_left
   ·intro w'
    go_simp
    with_reducible rfl
   rotate_left
   ·simp only [Act.put, lsa_, ls0_, ls1_, i64_w, i32_w]
    rfl
   refine pure_ (i := 8) (N := some 20) (v := ?_) (a' := ?_) #[t_,t_,t_,t_,t_,t_,t_,t_,t_,f_,f_,f_,f_,f_,f_,f_,f_] rfl rfl (aH_ HT_.out (by kernel_rfl)) (fun _ _ _ h => h) (Or.inl ⟨by rfl, ?_⟩) ?_ ?_
   rotate_left
   ·intro w'
    go_simp
    with_reducible rfl
   rotate_left
   ·simp only [Act.put, lsa_, ls0_, ls1_, i64_w, i32_w]
    rfl
   refine pure_ (i := 9) (N := some 21) (v := ?_) (a' := ?_) #[t_,t_,t_,t_,t_,t_,t_,t_,t_,t_,f_,f_,f_,f_,f_,f_,f_] rfl rfl (aH_ HT_.out (by kernel_rfl)) (fun _ _ _ h => h) (Or.inl ⟨by rfl, ?_⟩) ?_ ?_
   rotate_left
   ·intro w'
    go_simp
    with_reducible rfl
   rotate_left
   ·simp only [Act.put, lsa_, ls0_, ls1_, i64_w, i32_w]
    rfl
   refine pure_ (i := 10) (N := some 22) (v := ?_) (a' := ?_) #[t_,t_,t_,t_,t_,t_,t_,t_,t_,t_,t_,f_,f_,f_,f_,f_,f_] rfl rfl (aH_ HT_.out (by kernel_rfl)) (fun _ _ _ h => h) (Or.inl ⟨by rfl, ?_⟩) ?_ ?_
   rotate_left
   ·intro w'
    go_simp
    with_reducible rfl
   rotate_left
   ·simp only [Act.put, lsa_, ls0_, ls1_, i64_w, i32_w]
    rfl
   refine take_ (i := 11) (N := some 23) (v := ?_) (a' := ?_) #[t_,t_,t_,t_,t_,t_,t_,t_,t_,t_,t_,t_,f_,f_,f_,f_,f_] rfl rfl (bt_ HT_.out HW_.out (by kernel_rfl)) (fun _ _ _ h => h) (Or.inl ⟨by rfl, ?_⟩) hHeld ?_ ?_
   rotate_left
   ·rintro w' ⟨s0, s1, s2, s3, s4, s5⟩
    go_simp
    with_reducible rfl
   rotate_left
   ·simp only [Act.put, lsa_, ls0_, ls1_, i64_w, i32_w]
    rfl
   refine take_ (i := 12) (N := some 24) (v := ?_) (a' := ?_) #[t_,t_,t_,t_,t_,t_,t_,t_,t_,t_,t_,t_,t_,f_,f_,f_,f_] rfl rfl (bt_ HT_.out HW_.out (by kernel_rfl)) (fun _ _ _ h => h) (Or.inl ⟨by rfl, ?_⟩) hHeld ?_ ?_
   rotate_left
   ·rintro w' ⟨s0, s1, s2, s3, s4, s5⟩
    go_simp
    with_reducible rfl
   rotate_left
   ·simp only [Act.put, lsa_, ls0_, ls1_, i64_w, i32_w]
    rfl
   refine one_ (i := 13) (N := some 25) #[t_,t_,t_,t_,t_,t_,t_,t_,t_,t_,t_,t_,t_,t_,f_,f_,f_] rfl rfl (ct_ HT_.out (by kernel_rfl)) (by decide) (fun K hK => ?_)
   (first | refine goes_ Tryz.func33 (by kernel_rfl) rfl #[.agg #[.string ((ag_ l0 (ji8)).f0), .string ((ag_ l0 (ji8)).f1), .string ((ag_ l0 (ji8)).f2)], .agg #[.string ((ag_ l0 x7_1).f0), .string ((ag_ l0 x7_1).f1), .string ((ag_ l0 x7_1).f2)]] (by rfl) rfl rfl (by (try simp only [List.map_toArray, List.map_cons, List.map_nil]); first | done | (simp only [hji8]; rfl) | rfl | (simp only [List.length_drop, List.length_take]; rfl)) ?_ | refine RPW.df_ Tryz.func33 (by kernel_rfl) rfl #[.agg #[.string ((ag_ l0 (ji8)).f0), .string ((ag_ l0 (ji8)).f1), .string ((ag_ l0 (ji8)).f2)], .agg #[.string ((ag_ l0 x7_1).f0), .string ((ag_ l0 x7_1).f1), .string ((ag_ l0 x7_1).f2)]] (by rfl) rfl rfl rfl (by (try simp only [List.map_toArray, List.map_cons, List.map_nil]); first | done | (simp only [hji8]; rfl) | rfl | (simp only [List.length_drop, List.length_take]; rfl)) ?_ | refine RPW.dg_ Tryz.func33 (by kernel_rfl) rfl #[.agg #[.string ((ag_ l0 (ji8)).f0), .string ((ag_ l0 (ji8)).f1), .string ((ag_ l0 (ji8)).f2)], .agg #[.string ((ag_ l0 x7_1).f0), .string ((ag_ l0 x7_1).f1), .string ((ag_ l0 x7_1).f2)]] (by rfl) rfl rfl rfl (by (try simp only [List.map_toArray, List.map_cons, List.map_nil]); first | done | (simp only [hji8]; rfl) | rfl | (simp only [List.length_drop, List.length_take]; rfl)) ?_)
   with_reducible refine (bV_.calls ((ag_ l0 (ji8)).f0) ((ag_ l0 (ji8)).f1) ((ag_ l0 (ji8)).f2) ((ag_ l0 x7_1).f0) ((ag_ l0 x7_1).f1) ((ag_ l0 x7_1).f2) t105 _ A11.out).mono ?_
   rintro e w18 ⟨rfl, hb⟩
   refine ⟨_, rfl, ?_⟩
   have n0_ := Aside0.mk (an_ (kz BK102.out) hb)
   have n1_ := Aside0.mk (ac_ (by repeat (first | (with_reducible first | exact HB.out | apply bA_ | apply bN_ | apply bD_ | refine aa_ ?_ GE102.out))) hb)
   clear BK102
   clear HB
   have BK102 := n0_
   have HB := n1_
   clear n0_ n1_
   (try clear hb)
   refine hK.out _ _ ⟨(am_ BK102.out 0).trans rfl, (am_ BK102.out 1).trans rfl, (am_ BK102.out 2).trans rfl, (bu_ HB.out hw104_0), (bu_ HB.out hw104_1), (bu_ HB.out hw104_2)⟩ (fun hHeld => ?_)
   clear hK K
   refine norm_ (a' := ?_) ?_ ?_
   rotate_left
   ·show Act.put _ (some 25) _ = _
    simp only [Act.put, lsa_, ls0_, ls1_, i64_w, i32_w]
    rfl
   refine pure_ (i := 14) (N := some 26) (v := ?_) (a' := ?_) #[t_,t_,t_,t_,t_,t_,t_,t_,t_,t_,t_,t_,t_,t_,t_,f_,f_] rfl rfl (aH_ HT_.out (by kernel_rfl)) (fun _ _ _ h => h) (Or.inl ⟨by rfl, ?_⟩) ?_ ?_
   rotate_left
   ·intro w'
    go_simp
    with_reducible rfl
   rotate_left
   ·simp only [Act.put, lsa_, ls0_, ls1_, i64_w, i32_w]
    rfl
   refine pure_ (i := 15) (N := some 27) (v := ?_) (a' := ?_) #[t_,t_,t_,t_,t_,t_,t_,t_,t_,t_,t_,t_,t_,t_,t_,t_,f_] rfl rfl (aH_ HT_.out (by kernel_rfl)) (fun _ _ _ h => h) (Or.inl ⟨by rfl, ?_⟩) ?_ ?_
   rotate_left
   ·intro w'
    go_simp
    with_reducible rfl
   rotate_left
   ·simp only [Act.put, lsa_, ls0_, ls1_, i64_w, i32_w]
    rfl
   refine pure_ (i := 16) (N := some 28) (v := ?_) (a' := ?_) #[t_,t_,t_,t_,t_,t_,t_,t_,t_,t_,t_,t_,t_,t_,t_,t_,t_] rfl rfl (aH_ HT_.out (by kernel_rfl)) (fun _ _ _ h => h) (Or.inl ⟨by rfl, ?_⟩) ?_ ?_
   rotate_left
   ·intro w'
    go_simp
    with_reducible rfl
   rotate_left
   ·simp only [Act.put, lsa_, ls0_, ls1_, i64_w, i32_w]
    rfl
   refine done_ (cN_ HT_.out (by kernel_rfl)) ?_
   go_upto_if 28 with (fail)
   have H := HC12.out
   clear HC12
   by_cases c19 : t105 ≥ 0
   rotate_left
   ·rw [if_neg c19] at H
    have c19b0 : decide (0 ≤ t105) = false := decide_eq_false c19
    clear c19
    (first | rw [c19b0] | (simp only [i64_w, i32_w]; rw [c19b0]) | (simp only [c19b1, Bool.not_true, Bool.not_false]) | (simp only [c19b0, Bool.not_true, Bool.not_false]) | skip)
    have H' := Aside0.mk H
    clear H
    go_wp2
    go_roundg k1
    case measure => have := HK1.out; omega
    case rel => exact ⟨(wrap64 (x7_1 + 1)), (by first | rfl | (simp; done) | (simp [*]; done)), H', ⟨by have := HK1.out; omega⟩, ⟨by repeat (first | (with_reducible first | exact HB.out | apply bA_ | apply bN_ | apply bD_ | refine aa_ ?_ GE102.out))⟩⟩
   rw [if_pos c19] at H
   have c19b0 : decide (0 ≤ t105) = true := decide_eq_true c19
   clear c19
   (first | rw [c19b0] | (simp only [i64_w, i32_w]; rw [c19b0]) | (simp only [c19b1, Bool.not_true, Bool.not_false]) | (simp only [c19b0, Bool.not_true, Bool.not_false]) | skip)
   obtain rfl := Option.some.inj H
   go_wp2
   go_ret
   exact ⟨by first | rfl | (simp [ai_, ah_] <;> rfl) | (simp only [← hji8]; first | rfl | (simp [ai_, ah_] <;> rfl)) | (simp [*, ai_, ah_] <;> rfl), by repeat (first | (with_reducible first | exact HB.out | apply bA_ | apply bN_ | apply bD_ | refine aa_ ?_ GE102.out))⟩
end Go.Proofs.YtckboiphlhhckaaGreatDoor.Q
namespace Go.Proofs.YtckboiphlhhckaaGreatDoor.Q
open Go Go.RowKit
def Tab_ (w : World) : Prop := (Lib.TabIs Tryz.prog w "internal/strconv.uint64pow10" .u64 Lib.pow10Tab) ∧ (∃ m : Int, w.cell? ⟨0, 0, none⟩ = some (.int .i64 m))
theorem bc_ {w w' : World} (h : Tab_ w) (hb : Below w.heap.size w w') : Tab_ w' := by
 obtain ⟨h1, h2⟩ := h
 refine ⟨?_, ?_⟩
 ·have h3 := h1
  unfold Lib.TabIs World.var? at h3
  obtain ⟨g, hg, h4⟩ := Option.bind_eq_some_iff.1 h3
  refine var?_below hb hg ?_ h1
  split at h4
  ·rename_i hh
   exact (Array.getElem?_eq_some_iff.1 hh).1
  ·cases h4
 ·obtain ⟨m, hm⟩ := h2
  exact ⟨m, (hb.cell (bl_ w _ hm)).trans hm⟩
end Go.Proofs.YtckboiphlhhckaaGreatDoor.Q
namespace Go.Proofs.YtckboiphlhhckaaGreatDoor.Q
open Go.RowKit Go.Proofs.YtckboiphlhhckaaGreatDoorW.PrintWords Go.Proofs.YtckboiphlhhckaaGreatDoorW.PrintLast Go.Proofs.YtckboiphlhhckaaGreatDoorW.PrintMore
attribute [local go_sem] aN_ aM_ aW_ aU_ aC_ aD_ aL_ aO_
def strings_Split.f (a0 : ByteArray) (a1 : ByteArray) : Option (List ByteArray) := if a0.size < 4294967281 ∧ 1 ≤ a1.size then some (Go.Lib.splitB a1 0 (Go.Lib.countB a0 a1) a0) else none
theorem strings_Split.calls (a0 : ByteArray) (a1 : ByteArray) (r : List ByteArray) (w : World) (hTab_ : Tab_ w) (h : strings_Split.f a0 a1 = some r) :
  Calls Tryz.prog 34 #[.string a0, .string a1] w fun e w' => ∃ v0_ : Value, e = .returned (v0_) ∧ Kd.R Kd.string 9 w' w.heap.size (fun _ => True) v0_ r ∧ Below w.heap.size w w' := by
 unfold strings_Split.f at h
 split at h
 case isFalse => cases h
 rename_i hc
 obtain ⟨hs, h1⟩ := hc
 obtain rfl := Option.some.inj h
 obtain ⟨m, hm⟩ := hTab_.2
 refine (Go.Proofs.Tryz.strings_Split a0 a1 m w hs hm h1).mono ?_
 rintro e w' ⟨rfl, rfl⟩
 have hlen := Go.Lib.splitB_all a1 h1 0 (Go.Lib.countB a0 a1) a0 rfl
 obtain ⟨l, hl⟩ : ∃ l, l = Go.Lib.splitB a1 0 (Go.Lib.countB a0 a1) a0 := ⟨_, rfl⟩
 rw [← hl] at hlen ⊢
 have hsz : Go.Lib.countB a0 a1 + 1 = l.length := hlen.symm
 rw [hsz]
 have hll : l.length ≤ 9223372036854775807 := by
  have := Go.Lib.countB_le a1 h1 a0.size a0 (Nat.le_refl _)
  omega
 refine ⟨_, rfl, ⟨fun _ _ => trivial, l.map Value.string, ?_, ?_⟩, bA_ (Below.refl _ _) _⟩
 ·have h2 := World.ownsRow_lit (base := w.heap.size) (e := 9) (size := Kd.string.sz) w (l.map Value.string).toArray l.length (Nat.le_refl _) (by simpa [maxLen] using hll) (by show _ = l.length * 1; simp)
  simpa using h2
 ·refine ⟨by show _ = l.length * 1; simp, fun j p hj => ?_⟩
  show ((l.map Value.string).drop (j * 1)).take 1 = [Value.string p]
  obtain ⟨hj1, hj2⟩ := List.getElem?_eq_some_iff.1 hj
  rw [Nat.mul_one, ← List.map_drop, ← List.map_take, List.drop_eq_getElem_cons hj1, List.take_succ_cons, List.take_zero, hj2]
  rfl
def stringslite_HasPrefix.f (a0 : ByteArray) (a1 : ByteArray) : Option (Bool) := if (a0.size : Int) ≥ (a1.size : Int) then (if 0 ≤ (a1.size : Int) then (if (a1.size : Int) ≤ (a0.size : Int) then (some ((a0.extract 0 ((a1.size : Int) : Int).toNat).toList == a1.toList)) else (none)) else (none)) else (some false)
set_option maxHeartbeats 8000000 in
set_option maxRecDepth 100000 in
theorem stringslite_HasPrefix.calls (a0 : ByteArray) (a1 : ByteArray) (r : Bool) (w : World) (h : stringslite_HasPrefix.f a0 a1 = some r) :
  Calls Tryz.prog 69 #[.string a0, .string a1] w fun e w' => e = .returned (.bool r) ∧ ap_ w w' := by
 have H : (if (a0.size : Int) ≥ (a1.size : Int) then (if 0 ≤ (a1.size : Int) then (if (a1.size : Int) ≤ (a0.size : Int) then (some ((a0.extract 0 ((a1.size : Int) : Int).toNat).toList == a1.toList)) else (none)) else (none)) else (some false)) = some r := h
 clear h
 by_cases c3 : (a0.size : Int) ≥ (a1.size : Int)
 rotate_left
 ·rw [if_neg c3] at H
  have c3b0 : decide ((a1.size : Int) ≤ (a0.size : Int)) = false := decide_eq_false c3
  have c3b1 : decide (a1.size ≤ a0.size) = false := decide_eq_false (fun h => c3 (Int.ofNat_le.mpr h))
  clear c3
  obtain rfl := Option.some.inj H
  go_enter Tryz.func69, Tryz.ntmps69
  go_wp2
  go_ret
  exact ⟨by first | rfl | (simp; done) | (simp [*]; done), by repeat (first | exact ap_.refl _ | apply ap_.step)⟩
 rw [if_pos c3] at H
 have c3b0 : decide ((a1.size : Int) ≤ (a0.size : Int)) = true := decide_eq_true c3
 have c3b1 : decide (a1.size ≤ a0.size) = true := decide_eq_true (Int.ofNat_le.mp c3)
 clear c3
 by_cases c4 : 0 ≤ (a1.size : Int)
 rotate_left
 ·rw [if_neg c4] at H
  exact absurd H (by simp)
 rw [if_pos c4] at H
 have c4b0 := eq_true c4
 have c4b1 : decide (0 ≤ (a1.size : Int)) = true := decide_eq_true c4
 clear c4
 by_cases c5 : (a1.size : Int) ≤ (a0.size : Int)
 rotate_left
 ·rw [if_neg c5] at H
  exact absurd H (by simp)
 rw [if_pos c5] at H
 have c5b0 := eq_true c5
 have c5b1 : decide ((a1.size : Int) ≤ (a0.size : Int)) = true := decide_eq_true c5
 clear c5
 obtain rfl := Option.some.inj H
 go_enter Tryz.func69, Tryz.ntmps69
 go_wp2
 go_ret
 exact ⟨by first | rfl | (simp; done) | (simp [*]; done), by repeat (first | exact ap_.refl _ | apply ap_.step)⟩
def strings_HasPrefix.f (a0 : ByteArray) (a1 : ByteArray) : Option (Bool) := (stringslite_HasPrefix.f a0 a1).bind fun t101 => (some t101)
set_option maxHeartbeats 8000000 in
set_option maxRecDepth 100000 in
theorem strings_HasPrefix.calls (a0 : ByteArray) (a1 : ByteArray) (r : Bool) (w : World) (h : strings_HasPrefix.f a0 a1 = some r) :
  Calls Tryz.prog 51 #[.string a0, .string a1] w fun e w' => e = .returned (.bool r) ∧ ap_ w w' := by
 have H : ((stringslite_HasPrefix.f a0 a1).bind fun t101 => (some t101)) = some r := h
 clear h
 replace H := Option.bind_eq_some_iff.mp H
 obtain ⟨t101, A30, H⟩ := H
 (try dsimp only at H)
 have A3 := Aside0.mk A30
 clear A30
 obtain rfl := Option.some.inj H
 go_enter Tryz.func51, Tryz.ntmps51
 go_wp2_with (first | ((with_reducible refine af_ (f := 69) rfl ?_); refine aJ_ (some 7) rfl rfl Tryz.func69 (by kernel_rfl) rfl #[.string a0, .string a1] rfl (by first | rfl | (simp only [lma_, lmc_, lmn_]; first | done | rfl)) ?_; (with_reducible refine (stringslite_HasPrefix.calls a0 a1 t101 _ A3.out).mono ?_); rintro e w' ⟨rfl, ⟨nd, rfl⟩⟩; refine ⟨_, rfl, ?_⟩))
 go_ret
 exact ⟨by first | rfl | (simp; done) | (simp [*]; done), by repeat (first | exact ap_.refl _ | apply ap_.step)⟩
def bT_.f (a0 : Int) (a1 : Int) : Option (ByteArray) := if a1 = 10 ∧ -9223372036854775808 ≤ a0 ∧ a0 ≤ 9223372036854775807 then some (⟨(Go.Lib.itoa a0).toArray⟩ : ByteArray) else none
theorem bT_.calls (a0 : Int) (a1 : Int) (r : ByteArray) (w : World) (hTab_ : Tab_ w) (h : bT_.f a0 a1 = some r) :
  Calls Tryz.prog 70 #[.int .i64 a0, .int .i64 a1] w fun e w' => e = .returned (.string r) ∧ Below w.heap.size w w' := by
 unfold bT_.f at h
 split at h
 case isFalse => cases h
 rename_i hc
 obtain ⟨rfl, h0, h1⟩ := hc
 obtain rfl := Option.some.inj h
 refine (Go.Proofs.Tryz.strconv_FormatInt_10 a0 h0 h1 w hTab_.1).mono ?_
 rintro e w' ⟨rfl, k, os, rfl⟩
 exact ⟨rfl, Go.Lib.below_grow _ _ (Nat.le_refl _) _ _⟩
def ba_.f (a0 : Int) : Option (ByteArray) := (bT_.f a0 10).bind fun t101 => (some t101)
set_option maxHeartbeats 8000000 in
set_option maxRecDepth 100000 in
theorem ba_.calls (a0 : Int) (r : ByteArray) (w : World) (hTab_ : Tab_ w) (h : ba_.f a0 = some r) :
  Calls Tryz.prog 52 #[.int .i64 a0] w fun e w' => e = .returned (.string r) ∧ Below w.heap.size w w' := by
 have HTab_ := Aside0.mk hTab_
 clear hTab_
 have HB := Aside0.mk (Below.refl w.heap.size w)
 have H : ((bT_.f a0 10).bind fun t101 => (some t101)) = some r := h
 clear h
 replace H := Option.bind_eq_some_iff.mp H
 obtain ⟨t101, A20, H⟩ := H
 (try dsimp only at H)
 have A2 := Aside0.mk A20
 clear A20
 obtain rfl := Option.some.inj H
 go_enter Tryz.func52, Tryz.ntmps52
 go_wp2_with (first | ((with_reducible refine af_ (f := 70) rfl ?_); refine aJ_ (some 4) rfl rfl Tryz.func70 (by kernel_rfl) rfl #[.int .i64 a0, .int .i64 10] rfl (by first | rfl | (simp only [lma_, lmc_, lmn_]; first | done | rfl)) ?_; (with_reducible refine (bT_.calls a0 10 t101 _ ?side1 A2.out).mono ?_); (case side1 => exact bc_ HTab_.out (bz HB.out)); rintro e w3 ⟨rfl, hb⟩; refine ⟨_, rfl, ?_⟩; replace HB := Aside0.mk (ac_ (bz HB.out) hb); (try clear hb)))
 go_ret
 exact ⟨by first | rfl | (simp [*, ai_, ah_] <;> rfl), bz HB.out⟩
end Go.Proofs.YtckboiphlhhckaaGreatDoor.Q
