/- For all arguments that the law's sizes let in, the program's LoadBlocks gives what the reference gives. This text holds the functions' walks and the words for them. -/
import Derived.Shelf.Small.Strs
import Derived.Shelf.Small.Wraps
import Derived.Shelf.Utf8.RuneCount
import Derived.Shelf.Strconv.Itoa0
import Derived.Shelf.Strconv.Itoa1
import Derived.Shelf.LaysM
import Derived.Shelf.Strconv.Itoa2
import Derived.Shelf.Strconv.Itoa3
import Derived.Shelf.Strconv.Itoa4
import Derived.Shelf.Strings.Search1
import Derived.Shelf.Strings.Search2
import Derived.Shelf.Strings.Search3
import Derived.Shelf.Strings.Count
import Derived.Shelf.Strings.Shaped
import Derived.Shelf.Strings.Prefix
import Derived.Shelf.Strings.Split
import Derived.Shelf.Strings.SplitShaped
import Derived.Shelf.Unicode.Decode
import Derived.Shelf.Strings.RuneCount
import Derived.Shelf.Strings.Explode
import Derived.Shelf.Unicode.DecodeSlow
import Derived.Shelf.Unicode.DecodeAny
import Derived.Test.YtjebkmfljcanlaaDoorProg
import Derived.Lib.LaidTab
import Derived.Lib.ItoaNum
import Derived.WalkSmall
import Derived.KernelRfl
import Derived.Lib.SplitLaws
import Derived.Lib.AppendIntMem
import Derived.Test.YtjebkmfljcanlaaDoorKFnExactLoadBlocksa
set_option linter.unusedVariables false
set_option linter.unusedSimpArgs false
namespace Go.Proofs.YtjebkmfljcanlaaDoor.Q
open Go.RowKit Go.Proofs.YtjebkmfljcanlaaDoorW.PrintWords Go.Proofs.YtjebkmfljcanlaaDoorW.PrintLast Go.Proofs.YtjebkmfljcanlaaDoorW.PrintMore
attribute [local go_sem] aL_ aN_ aT_ aU_ aF_ aE_ aK_ aM_
mutual
def ac_.j0 : Nat → ByteArray → Bool → Option (ByteArray × ByteArray × ByteArray × Int)
 | 0, _, _ => none
 | k + 1, x0, x15 => if x15 = true then (some ((⟨#[]⟩ : ByteArray), (⟨#[]⟩ : ByteArray), (⟨#[]⟩ : ByteArray), 9)) else (if 6 ≤ (x0.size : Int) then ((some (x0.extract 6 x0.size : ByteArray)).bind fun y102 => (if 5 ≤ (x0.size : Int) then ((aG_.f k y102 65535).bind fun t104 => ((aS_.f k t104).bind fun t105 => (if (x0.extract 0 5).toList = t105.toList then (ac_.l0 k y102 0) else (some ((⟨#[]⟩ : ByteArray), (⟨#[]⟩ : ByteArray), (⟨#[]⟩ : ByteArray), 10))))) else (none))) else (none))
def ac_.j2 : Nat → ByteArray → Int → Option (ByteArray × ByteArray × ByteArray × Int)
 | 0, _, _ => none
 | k + 1, x4, x5 => ac_.l1 k x4 x5 (wrap64 (x5 + 1))
def ac_.j4 : Nat → ByteArray → Int → Int → Option (ByteArray × ByteArray × ByteArray × Int)
 | 0, _, _, _ => none
 | k + 1, x4, x5, x6 => if x6 ≥ (x4.size : Int) then (some ((⟨#[]⟩ : ByteArray), (⟨#[]⟩ : ByteArray), (⟨#[]⟩ : ByteArray), 9)) else (if 0 ≤ x5 then (if x5 ≤ (x4.size : Int) then ((some (x4.extract 0 (x5 : Int).toNat : ByteArray)).bind fun y106 => (if 0 ≤ (wrap64 (x5 + 1)) then (if (wrap64 (x5 + 1)) ≤ x6 then (if x6 ≤ (x4.size : Int) then ((some (x4.extract ((wrap64 (x5 + 1)) : Int).toNat (x6 : Int).toNat : ByteArray)).bind fun y107 => (if 0 ≤ (wrap64 (x6 + 1)) then (if (wrap64 (x6 + 1)) ≤ (x4.size : Int) then ((some (x4.extract ((wrap64 (x6 + 1)) : Int).toNat x4.size : ByteArray)).bind fun y108 => ((aP_.f k [(⟨y106, y107, y108⟩ : S43)]).bind fun t110 => (if t110 = true then (some (y106, y107, y108, 0)) else (some ((⟨#[]⟩ : ByteArray), (⟨#[]⟩ : ByteArray), (⟨#[]⟩ : ByteArray), 9))))) else (none)) else (none))) else (none)) else (none)) else (none))) else (none)) else (none))
def ac_.l1 : Nat → ByteArray → Int → Int → Option (ByteArray × ByteArray × ByteArray × Int)
 | 0, _, _, _ => none
 | k + 1, x4, x5, x6 => if x6 < (x4.size : Int) then (if 0 ≤ x6 then (if (bt x4 x6) = 32 then (ac_.j4 k x4 x5 x6) else (ac_.l1 k x4 x5 (wrap64 (x6 + 1)))) else (none)) else (ac_.j4 k x4 x5 x6)
def ac_.l0 : Nat → ByteArray → Int → Option (ByteArray × ByteArray × ByteArray × Int)
 | 0, _, _ => none
 | k + 1, x4, x5 => if x5 < (x4.size : Int) then (if 0 ≤ x5 then (if (bt x4 x5) = 32 then (ac_.j2 k x4 x5) else (ac_.l0 k x4 (wrap64 (x5 + 1)))) else (none)) else (ac_.j2 k x4 x5)
end
def ac_.f (k : Nat) (a0 : ByteArray) : Option (ByteArray × ByteArray × ByteArray × Int) := if (a0.size : Int) < 6 then (ac_.j0 k a0 true) else (if 5 < (a0.size : Int) then (ac_.j0 k a0 ((bt a0 5) != 32)) else (none))
def ac_.T14 : Bool × List (List Nat × List Nat) := (true, [([], []), ([], []), ([0, 1], [0, 1]), ([], []), ([], []), ([4], [4]), ([], []), ([3, 5, 6], [3, 5, 6]), ([], []), ([], []), ([9], [9]), ([8, 10], [8, 10]), ([2, 7, 11], [2, 7, 11]), ([], []), ([13, 12, 0, 1, 2, 3, 4, 5, 6, 7, 8, 9, 10, 11, 12, 13], [12, 13])])
def ac_.B14 : List Nat := [0, 0, 3, 0, 0, 16, 0, 120, 0, 0, 512, 1792, 4095, 0, 16383]
theorem ac_.tab14 : rtab .any (opsOf Tryd.f27 14) = ac_.T14 := by kernel_rfl
theorem ac_.bits14 : waitsOk ac_.T14.2 ac_.B14 = true := by kernel_rfl
set_option maxHeartbeats 8000000 in
set_option maxRecDepth 100000 in
theorem ac_.calls (k : Nat) (a0 : ByteArray) (r1 : ByteArray) (r2 : ByteArray) (r3 : ByteArray) (r4 : Int) (w : World) (h : ac_.f k a0 = some (r1, r2, r3, r4)) :
  Calls Tryd.prog 27 #[.string a0] w fun e w' => e = .returned (.tuple #[.agg #[.string r1, .string r2, .string r3], .int .i64 r4]) ∧ Below w.heap.size w w' := by
 have hu43 := Tryd.underlying43
 have HB := Aside0.mk (Below.refl w.heap.size w)
 have H : (if (a0.size : Int) < 6 then (ac_.j0 k a0 true) else (if 5 < (a0.size : Int) then (ac_.j0 k a0 ((bt a0 5) != 32)) else (none))) = some (r1, r2, r3, r4) := h
 clear h
 have HC2 := Aside0.mk H
 clear H
 go_enter Tryd.func27, Tryd.ntmps27
 go_upto_region 1 with (first | ((with_reducible refine bn_ (N := 2) rfl ?_); refine bs_ ?hg (N := 2) ?hd (cs := #[.string (⟨#[]⟩ : ByteArray), .string (⟨#[]⟩ : ByteArray), .string (⟨#[]⟩ : ByteArray)]) (t := 43) ?hr ?_; (case hd => rfl); (case hg => rfl); (case hr => (go_simp; try rfl)); intro gb101 hg w3 hbox hb; have BK101 := Aside0.mk (hbox); have GW101 := Aside0.mk ((by rw [hg]; exact (aw_ (bz HB.out)) : w.heap.size ≤ gb101)); have GE101 := Aside0.mk ((by rw [hg]; exact (aw_ (bz HB.out)) : w.heap.size ≤ gb101)); replace HB := Aside0.mk (au_ (bz HB.out) hb); clear hb hbox hg))
 (try simp only [Act.put, lsa_, ls0_, ls1_])
 go_cut [15] (fun v15 wc => ∃ (kq : Nat) (x15_1 : Bool), v15 = .bool x15_1 ∧ Aside0 (ac_.j0 kq a0 x15_1 = some (r1, r2, r3, r4)) ∧ Aside0 (kq ≤ k) ∧ Aside0 (wc.heap[gb101]? = some (.cells #[.string (⟨#[]⟩ : ByteArray), .string (⟨#[]⟩ : ByteArray), .string (⟨#[]⟩ : ByteArray)] 43 (0, 0))) ∧ Aside0 (Below w.heap.size w wc))
 case first =>
  have H := HC2.out
  clear HC2
  by_cases c4 : (a0.size : Int) < 6
  rotate_left
  ·rw [if_neg c4] at H
   have c4b0 : decide ((a0.size : Int) < 6) = false := decide_eq_false c4
   have c4b1 : decide (a0.size < 6) = false := decide_eq_false (by omega)
   clear c4
   (first | rw [c4b0] | (simp only [i64_w, i32_w]; rw [c4b0]) | (simp only [c4b1, Bool.not_true, Bool.not_false]) | (simp only [c4b0, Bool.not_true, Bool.not_false]) | skip)
   by_cases c5 : 5 < (a0.size : Int)
   rotate_left
   ·rw [if_neg c5] at H
    exact absurd H (by simp)
   rw [if_pos c5] at H
   have c5b0 : decide (5 < (a0.size : Int)) = true := decide_eq_true c5
   have c5b1 : decide (5 < a0.size) = true := decide_eq_true (by omega)
   clear c5
   have H' := Aside0.mk H
   clear H
   have p6 : 0 ≤ (5 : Int) := (by omega)
   have q6 : 5 < a0.size := (by have : (5 : Int) < (a0.size : Int) := of_decide_eq_true (by assumption); omega)
   have hx6 : ∀ h : 5 < a0.size, ((a0[5]'h).toNat : Int) = bt a0 5 := bt_at a0 5
   clear p6
   have qi6 : (5 < (a0.size : Int)) = True := eq_true (of_decide_eq_true (by assumption))
   replace q6 := eq_true q6
   go_wp2
   go_meet
   case rel => exact ⟨_, (((bt a0 5) != 32)), (by first | rfl | (simp; done) | (simp [*]; done)), H', ⟨by first | omega | exact Nat.le_refl _⟩, ⟨by (with_reducible repeat (first | refine ae_ ?_ _ | refine am_ ?_ | refine af_ ?_ _)); exact BK101.out⟩, ⟨by repeat (first | (with_reducible first | exact HB.out | apply bA_ | apply bN_ | apply bD_ | refine al_ ?_ GE101.out) | exact HB.out)⟩⟩
  rw [if_pos c4] at H
  have c4b0 : decide ((a0.size : Int) < 6) = true := decide_eq_true c4
  have c4b1 : decide (a0.size < 6) = true := decide_eq_true (by omega)
  clear c4
  (first | rw [c4b0] | (simp only [i64_w, i32_w]; rw [c4b0]) | (simp only [c4b1, Bool.not_true, Bool.not_false]) | (simp only [c4b0, Bool.not_true, Bool.not_false]) | skip)
  have H' := Aside0.mk H
  clear H
  go_wp2
  go_meet
  case rel => exact ⟨_, (true), (by first | rfl | (simp; done) | (simp [*]; done)), H', ⟨by first | omega | exact Nat.le_refl _⟩, ⟨by (with_reducible repeat (first | refine ae_ ?_ _ | refine am_ ?_ | refine af_ ?_ _)); exact BK101.out⟩, ⟨by repeat (first | (with_reducible first | exact HB.out | apply bA_ | apply bN_ | apply bD_ | refine al_ ?_ GE101.out) | exact HB.out)⟩⟩
 case rest =>
  clear HC2
  obtain ⟨kq, x15_1, rfl, HA, HJ1, BK101, HB⟩ := hcut
  cases kq with
  | zero => exact absurd HA.out (by simp [ac_.j0])
  | succ kj1 =>
   have H := HA.out
   clear HA
   simp only [ac_.j0] at H
   by_cases c7 : x15_1 = true
   rotate_left
   ·replace c7 := Bool.eq_false_iff.mpr c7
    subst c7
    have H1 : (if 6 ≤ (a0.size : Int) then ((some (a0.extract 6 a0.size : ByteArray)).bind fun y102 => (if 5 ≤ (a0.size : Int) then ((aG_.f kj1 y102 65535).bind fun t104 => ((aS_.f kj1 t104).bind fun t105 => (if (a0.extract 0 5).toList = t105.toList then (ac_.l0 kj1 y102 0) else (some ((⟨#[]⟩ : ByteArray), (⟨#[]⟩ : ByteArray), (⟨#[]⟩ : ByteArray), 10))))) else (none))) else (none)) = some (r1, r2, r3, r4) := by rw [if_neg (show ¬ (false = true) by decide)] at H; exact H
    clear H
    have H := H1
    clear H1
    by_cases c9 : 6 ≤ (a0.size : Int)
    rotate_left
    ·rw [if_neg c9] at H
     exact absurd H (by simp)
    rw [if_pos c9] at H
    have c9b0 := eq_true c9
    have c9b1 : decide (6 ≤ (a0.size : Int)) = true := decide_eq_true c9
    clear c9
    obtain ⟨y102, hy102⟩ : ∃ y_ : ByteArray, y_ = (a0.extract 6 a0.size) := ⟨_, rfl⟩
    replace H : (if 5 ≤ (a0.size : Int) then ((aG_.f kj1 y102 65535).bind fun t104 => ((aS_.f kj1 t104).bind fun t105 => (if (a0.extract 0 5).toList = t105.toList then (ac_.l0 kj1 y102 0) else (some ((⟨#[]⟩ : ByteArray), (⟨#[]⟩ : ByteArray), (⟨#[]⟩ : ByteArray), 10))))) else (none)) = some (r1, r2, r3, r4) := by first | (rw [hy102]; with_reducible exact H) | (have H2_ := (Option.bind_some _ _).symm.trans H; rw [hy102]; with_reducible exact H2_) | (have H2_ := (Option.bind_some _ _).symm.trans H; with_reducible exact H2_) | with_reducible exact H | (rw [hy102]; exact H) | exact H
    have Ny102 := Aside0.mk hy102
    clear hy102
    have Sy102 := Ny102.out.symm
    by_cases c10 : 5 ≤ (a0.size : Int)
    rotate_left
    ·rw [if_neg c10] at H
     exact absurd H (by simp)
    rw [if_pos c10] at H
    have c10b0 := eq_true c10
    have c10b1 : decide (5 ≤ (a0.size : Int)) = true := decide_eq_true c10
    clear c10
    obtain ⟨y103, hy103⟩ : ∃ y_ : ByteArray, y_ = (a0.extract 0 5) := ⟨_, rfl⟩
    replace H : ((aG_.f kj1 y102 65535).bind fun t104 => ((aS_.f kj1 t104).bind fun t105 => (if y103.toList = t105.toList then (ac_.l0 kj1 y102 0) else (some ((⟨#[]⟩ : ByteArray), (⟨#[]⟩ : ByteArray), (⟨#[]⟩ : ByteArray), 10))))) = some (r1, r2, r3, r4) := by first | (rw [hy103]; with_reducible exact H) | (have H2_ := (Option.bind_some _ _).symm.trans H; rw [hy103]; with_reducible exact H2_) | (have H2_ := (Option.bind_some _ _).symm.trans H; with_reducible exact H2_) | with_reducible exact H | (rw [hy103]; exact H) | exact H
    have Ny103 := Aside0.mk hy103
    clear hy103
    have Sy103 := Ny103.out.symm
    replace H := Option.bind_eq_some_iff.mp H
    obtain ⟨t104, A110, H⟩ := H
    (try dsimp only at H)
    have A11 := Aside0.mk A110
    clear A110
    replace H := Option.bind_eq_some_iff.mp H
    obtain ⟨t105, A120, H⟩ := H
    (try dsimp only at H)
    have A12 := Aside0.mk A120
    clear A120
    have HC13 := Aside0.mk H
    clear H
    try go_wp2
    have n0_ := Aside0.mk (am_ BK101.out)
    have n1_ := Aside0.mk (bD_ HB.out)
    clear BK101
    clear HB
    have BK101 := n0_
    have HB := n1_
    clear n0_ n1_
    refine start_ (n := 6) (S := fun w' => True) (ds := []) #[f_,f_,f_,f_,f_,f_] (by kernel_rfl) rfl rfl trivial (fun hHeld => ?_)
    generalize wc.drew = w14 at BK101 HB hHeld ⊢
    refine pure_ (i := 0) (N := some 19) (v := ?_) (a' := ?_) #[t_,f_,f_,f_,f_,f_] rfl rfl (by kernel_rfl) (fun _ _ _ h => h) (Or.inl ⟨by rfl, ?_⟩) ?_ ?_
    rotate_left
    ·intro w'
     go_simp
     with_reducible rfl
    rotate_left
    ·simp only [Act.put, lsa_, ls0_, ls1_, i64_w, i32_w]
     rfl
    refine pure_ (i := 1) (N := some 20) (v := ?_) (a' := ?_) #[t_,t_,f_,f_,f_,f_] rfl rfl (by kernel_rfl) (fun _ _ _ h => h) (Or.inl ⟨by rfl, ?_⟩) ?_ ?_
    rotate_left
    ·intro w'
     go_simp
     with_reducible rfl
    rotate_left
    ·simp only [Act.put, lsa_, ls0_, ls1_, i64_w, i32_w]
     rfl
    refine pure_ (i := 2) (N := some 21) (v := ?_) (a' := ?_) #[t_,t_,t_,f_,f_,f_] rfl rfl (by kernel_rfl) (fun _ _ _ h => h) (Or.inl ⟨by rfl, ?_⟩) ?_ ?_
    rotate_left
    ·intro w'
     go_simp
     with_reducible rfl
    rotate_left
    ·simp only [Act.put, lsa_, ls0_, ls1_, i64_w, i32_w]
     rfl
    refine one_ (i := 3) (N := some 22) #[t_,t_,t_,t_,f_,f_] rfl rfl (by kernel_rfl) (by decide) (fun K hK => ?_)
    (first | refine goes_ Tryd.func48 (by kernel_rfl) rfl #[.string y102, .int .i64 65535] (by rfl) rfl rfl (by first | rfl | (simp only [List.map_toArray, List.map_cons, List.map_nil]; first | done | rfl)) ?_ | refine RPW.goesV_ Tryd.func48 (by kernel_rfl) rfl #[.string y102, .int .i64 65535] (by rfl) rfl rfl rfl (by first | rfl | (simp only [List.map_toArray, List.map_cons, List.map_nil]; first | done | rfl)) ?_ | refine RPW.goesC_ Tryd.func48 (by kernel_rfl) rfl #[.string y102, .int .i64 65535] (by rfl) rfl rfl rfl (by first | rfl | (simp only [List.map_toArray, List.map_cons, List.map_nil]; first | done | rfl)) ?_)
    with_reducible refine (aG_.calls kj1 y102 65535 t104 _ A11.out).mono ?_
    rintro e w' ⟨rfl, ⟨nd, rfl⟩⟩
    refine ⟨_, rfl, ?_⟩
    refine hK.out _ _ trivial (fun hHeld => ?_)
    clear hK K
    refine norm_ (a' := ?_) ?_ ?_
    rotate_left
    ·show Act.put _ (some 22) _ = _
     simp only [Act.put, lsa_, ls0_, ls1_, i64_w, i32_w]
     rfl
    refine one_ (i := 4) (N := some 23) #[t_,t_,t_,t_,t_,f_] rfl rfl (by kernel_rfl) (by decide) (fun K hK => ?_)
    (first | refine goes_ Tryd.func47 (by kernel_rfl) rfl #[.int .i64 t104] (by rfl) rfl rfl (by first | rfl | (simp only [List.map_toArray, List.map_cons, List.map_nil]; first | done | rfl)) ?_ | refine RPW.goesV_ Tryd.func47 (by kernel_rfl) rfl #[.int .i64 t104] (by rfl) rfl rfl rfl (by first | rfl | (simp only [List.map_toArray, List.map_cons, List.map_nil]; first | done | rfl)) ?_ | refine RPW.goesC_ Tryd.func47 (by kernel_rfl) rfl #[.int .i64 t104] (by rfl) rfl rfl rfl (by first | rfl | (simp only [List.map_toArray, List.map_cons, List.map_nil]; first | done | rfl)) ?_)
    with_reducible refine (aS_.calls kj1 t104 t105 _ A12.out).mono ?_
    rintro e w15 ⟨rfl, hb⟩
    refine ⟨_, rfl, ?_⟩
    have n0_ := Aside0.mk (bv_ (g := gb101) (o := .cells #[.string (⟨#[]⟩ : ByteArray), .string (⟨#[]⟩ : ByteArray), .string (⟨#[]⟩ : ByteArray)] 43 (0, 0)) (kz BK101.out) hb)
    have n1_ := Aside0.mk (au_ (by repeat (first | (with_reducible first | exact HB.out | apply bA_ | apply bN_ | apply bD_ | refine al_ ?_ GE101.out) | exact HB.out)) hb)
    clear BK101
    clear HB
    have BK101 := n0_
    have HB := n1_
    clear n0_ n1_
    (try clear hb)
    refine hK.out _ _ trivial (fun hHeld => ?_)
    clear hK K
    refine norm_ (a' := ?_) ?_ ?_
    rotate_left
    ·show Act.put _ (some 23) _ = _
     simp only [Act.put, lsa_, ls0_, ls1_, i64_w, i32_w]
     rfl
    refine pure_ (i := 5) (N := some 24) (v := ?_) (a' := ?_) #[t_,t_,t_,t_,t_,t_] rfl rfl (by kernel_rfl) (fun _ _ _ h => h) (Or.inl ⟨by rfl, ?_⟩) ?_ ?_
    rotate_left
    ·intro w'
     go_simp
     with_reducible rfl
    rotate_left
    ·simp only [Act.put, lsa_, ls0_, ls1_, i64_w, i32_w]
     rfl
    refine done_ (by kernel_rfl) ?_
    go_upto_if 24 with (fail)
    have H := HC13.out
    clear HC13
    by_cases c16 : y103.toList = t105.toList
    rotate_left
    ·rw [if_neg c16] at H
     have c16b0 : (y103.toList == t105.toList) = false := beq_eq_false_iff_ne.mpr c16
     have c16b1 : (y103.toList != t105.toList) = true := bne_iff_ne.mpr c16
     (first | rw [c16b0] | (simp only [i64_w, i32_w]; rw [c16b0]) | (simp only [c16b1, Bool.not_true, Bool.not_false]) | (simp only [c16b0, Bool.not_true, Bool.not_false]) | skip)
     simp only [Option.some.injEq, Prod.mk.injEq] at H
     obtain ⟨rfl, rfl, rfl, rfl⟩ := H
     have hcz51_0 : w15.cell? ⟨gb101, 0, none⟩ = some (.string (⟨#[]⟩ : ByteArray)) := (ai_ BK101.out 0).trans rfl
     have hcz51_1 : w15.cell? ⟨gb101, 1, none⟩ = some (.string (⟨#[]⟩ : ByteArray)) := (ai_ BK101.out 1).trans rfl
     have hcz51_2 : w15.cell? ⟨gb101, 2, none⟩ = some (.string (⟨#[]⟩ : ByteArray)) := (ai_ BK101.out 2).trans rfl
     have hfz51_0 := ab_ BK101.out 0
     have hfz51_1 := ab_ BK101.out 1
     have hfz51_2 := ab_ BK101.out 2
     go_wp2
     refine bodyPost_ret (bt_ rfl _ _ gb101 43 #[.string (⟨#[]⟩ : ByteArray), .string (⟨#[]⟩ : ByteArray), .string (⟨#[]⟩ : ByteArray)] (0, 0) _ rfl (by (with_reducible repeat (first | refine ae_ ?_ _ | refine am_ ?_ | refine af_ ?_ _)); refine aI_ (cs := #[.string (⟨#[]⟩ : ByteArray), .string (⟨#[]⟩ : ByteArray), .string (⟨#[]⟩ : ByteArray)]) ?_ 2 _ rfl; (with_reducible repeat (first | refine ae_ ?_ _ | refine am_ ?_ | refine af_ ?_ _)); refine aI_ (cs := #[.string (⟨#[]⟩ : ByteArray), .string (⟨#[]⟩ : ByteArray), .string (⟨#[]⟩ : ByteArray)]) ?_ 1 _ rfl; (with_reducible repeat (first | refine ae_ ?_ _ | refine am_ ?_ | refine af_ ?_ _)); refine aI_ (cs := #[.string (⟨#[]⟩ : ByteArray), .string (⟨#[]⟩ : ByteArray), .string (⟨#[]⟩ : ByteArray)]) ?_ 0 _ rfl; (with_reducible repeat (first | refine ae_ ?_ _ | refine am_ ?_ | refine af_ ?_ _)); exact BK101.out) Tryd.underlying43 rfl (by kernel_rfl)) rfl ?_
     exact ⟨by first | rfl | (simp [*, ap_, aq_] <;> rfl), by repeat (first | (with_reducible first | exact HB.out | apply bA_ | apply bN_ | apply bD_ | refine al_ ?_ GE101.out) | exact HB.out)⟩
    rw [if_pos c16] at H
    have c16b0 : (y103.toList == t105.toList) = true := beq_iff_eq.mpr c16
    have c16b1 : (y103.toList != t105.toList) = false := bne_eq_false_iff_eq.mpr c16
    clear c16
    (first | rw [c16b0] | (simp only [i64_w, i32_w]; rw [c16b0]) | (simp only [c16b1, Bool.not_true, Bool.not_false]) | (simp only [c16b0, Bool.not_true, Bool.not_false]) | skip)
    have HC17 := Aside0.mk H
    clear H
    go_upto_block 0 with (fail)
    go_cut [5] (fun v5 wc => ∃ (kq : Nat) (x5_16 : Int), v5 = .int .i64 x5_16 ∧ Aside0 (ac_.j2 kq y102 x5_16 = some (r1, r2, r3, r4)) ∧ Aside0 (kq ≤ kj1) ∧ Aside0 (wc.heap[gb101]? = some (.cells #[.string (⟨#[]⟩ : ByteArray), .string (⟨#[]⟩ : ByteArray), .string (⟨#[]⟩ : ByteArray)] 43 (0, 0))) ∧ Aside0 (Below w.heap.size w wc))
    case first =>
     have H := HC17.out
     clear HC17
     have H' := Aside0.mk H
     clear H
     go_wp2
     (try simp only [Act.put, lsa_, ls0_, ls1_])
     go_loopg [5] kj1 (fun kq v5 w' => ∃ (x5_2 : Int), v5 = .int .i64 x5_2 ∧ Aside0 (ac_.l0 kq y102 x5_2 = some (r1, r2, r3, r4)) ∧ Aside0 (kq ≤ kj1) ∧ Aside0 (w'.heap[gb101]? = some (.cells #[.string (⟨#[]⟩ : ByteArray), .string (⟨#[]⟩ : ByteArray), .string (⟨#[]⟩ : ByteArray)] 43 (0, 0))) ∧ Aside0 (Below w.heap.size w w'))
     case atStart => exact ⟨(0), (by first | rfl | (simp; done) | (simp [*]; done)), H', ⟨Nat.le_refl _⟩, ⟨by (with_reducible repeat (first | refine ae_ ?_ _ | refine am_ ?_ | refine af_ ?_ _)); exact BK101.out⟩, ⟨by repeat (first | (with_reducible first | exact HB.out | apply bA_ | apply bN_ | apply bD_ | refine al_ ?_ GE101.out) | exact HB.out)⟩⟩
     case round =>
      clear H'
      obtain ⟨x5_2, rfl, HA, HK2, BK101, HB⟩ := hrel
      cases gk with
      | zero => exact absurd HA.out (by simp [ac_.l0])
      | succ k2 =>
       have H := HA.out
       clear HA
       simp only [ac_.l0] at H
       by_cases c18 : x5_2 < (y102.size : Int)
       rotate_left
       ·rw [if_neg c18] at H
        have c18b0 : decide (x5_2 < (y102.size : Int)) = false := decide_eq_false c18
        clear c18
        (first | rw [c18b0] | (simp only [i64_w, i32_w]; rw [c18b0]) | (simp only [c18b1, Bool.not_true, Bool.not_false]) | (simp only [c18b0, Bool.not_true, Bool.not_false]) | skip)
        have H' := Aside0.mk H
        clear H
        go_wp2
        go_meet
        case rel => exact ⟨_, (x5_2), (by first | rfl | (simp; done) | (simp [*]; done)), H', ⟨by have := HJ1.out; have := HK2.out; first | omega | exact Nat.le_refl _⟩, ⟨by (with_reducible repeat (first | refine ae_ ?_ _ | refine am_ ?_ | refine af_ ?_ _)); exact BK101.out⟩, ⟨by repeat (first | (with_reducible first | exact HB.out | apply bA_ | apply bN_ | apply bD_ | refine al_ ?_ GE101.out) | exact HB.out)⟩⟩
       rw [if_pos c18] at H
       have c18b0 : decide (x5_2 < (y102.size : Int)) = true := decide_eq_true c18
       clear c18
       (first | rw [c18b0] | (simp only [i64_w, i32_w]; rw [c18b0]) | (simp only [c18b1, Bool.not_true, Bool.not_false]) | (simp only [c18b0, Bool.not_true, Bool.not_false]) | skip)
       by_cases c19 : 0 ≤ x5_2
       rotate_left
       ·rw [if_neg c19] at H
        exact absurd H (by simp)
       rw [if_pos c19] at H
       have c19b0 : decide (0 ≤ x5_2) = true := decide_eq_true c19
       clear c19
       by_cases c21 : (bt y102 x5_2) = 32
       rotate_left
       ·rw [if_neg c21] at H
        have c21b0 : ((bt y102 x5_2) == 32) = false := beq_eq_false_iff_ne.mpr c21
        have c21b1 : ((bt y102 x5_2) != 32) = true := bne_iff_ne.mpr c21
        have H' := Aside0.mk H
        clear H
        have p20 : 0 ≤ (x5_2 : Int) := of_decide_eq_true (by assumption)
        have q20 : x5_2 < (y102.size : Int) := of_decide_eq_true (by assumption)
        have hx20 := bt_at y102 x5_2
        replace p20 := eq_true p20
        replace q20 := eq_true q20
        go_wp2
        go_roundg k2
        case measure => have := HJ1.out; have := HK2.out; omega
        case rel => exact ⟨(wrap64 (x5_2 + 1)), (by first | rfl | (simp; done) | (simp [*]; done)), H', ⟨by have := HJ1.out; have := HK2.out; omega⟩, ⟨by (with_reducible repeat (first | refine ae_ ?_ _ | refine am_ ?_ | refine af_ ?_ _)); exact BK101.out⟩, ⟨by repeat (first | (with_reducible first | exact HB.out | apply bA_ | apply bN_ | apply bD_ | refine al_ ?_ GE101.out) | exact HB.out)⟩⟩
       rw [if_pos c21] at H
       have c21b0 : ((bt y102 x5_2) == 32) = true := beq_iff_eq.mpr c21
       have c21b1 : ((bt y102 x5_2) != 32) = false := bne_eq_false_iff_eq.mpr c21
       clear c21
       have H' := Aside0.mk H
       clear H
       have p20 : 0 ≤ (x5_2 : Int) := of_decide_eq_true (by assumption)
       have q20 : x5_2 < (y102.size : Int) := of_decide_eq_true (by assumption)
       have hx20 := bt_at y102 x5_2
       replace p20 := eq_true p20
       replace q20 := eq_true q20
       go_wp2
       go_meet
       case rel => exact ⟨_, (x5_2), (by first | rfl | (simp; done) | (simp [*]; done)), H', ⟨by have := HJ1.out; have := HK2.out; first | omega | exact Nat.le_refl _⟩, ⟨by (with_reducible repeat (first | refine ae_ ?_ _ | refine am_ ?_ | refine af_ ?_ _)); exact BK101.out⟩, ⟨by repeat (first | (with_reducible first | exact HB.out | apply bA_ | apply bN_ | apply bD_ | refine al_ ?_ GE101.out) | exact HB.out)⟩⟩
    case rest =>
     clear HC17
     obtain ⟨kq, x5_16, rfl, HA, HJ16, BK101, HB⟩ := hcut
     cases kq with
     | zero => exact absurd HA.out (by simp [ac_.j2])
     | succ kj16 =>
      have H := HA.out
      clear HA
      simp only [ac_.j2] at H
      have HC22 := Aside0.mk H
      clear H
      go_upto_block 2 with (fail)
      go_cut [6] (fun v6 wc => ∃ (kq : Nat) (x6_21 : Int), v6 = .int .i64 x6_21 ∧ Aside0 (ac_.j4 kq y102 x5_16 x6_21 = some (r1, r2, r3, r4)) ∧ Aside0 (kq ≤ kj16) ∧ Aside0 (wc.heap[gb101]? = some (.cells #[.string (⟨#[]⟩ : ByteArray), .string (⟨#[]⟩ : ByteArray), .string (⟨#[]⟩ : ByteArray)] 43 (0, 0))) ∧ Aside0 (Below w.heap.size w wc))
      case first =>
       have H := HC22.out
       clear HC22
       have H' := Aside0.mk H
       clear H
       go_wp2
       (try simp only [Act.put, lsa_, ls0_, ls1_])
       go_loopg [6] kj16 (fun kq v6 w' => ∃ (x6_3 : Int), v6 = .int .i64 x6_3 ∧ Aside0 (ac_.l1 kq y102 x5_16 x6_3 = some (r1, r2, r3, r4)) ∧ Aside0 (kq ≤ kj16) ∧ Aside0 (w'.heap[gb101]? = some (.cells #[.string (⟨#[]⟩ : ByteArray), .string (⟨#[]⟩ : ByteArray), .string (⟨#[]⟩ : ByteArray)] 43 (0, 0))) ∧ Aside0 (Below w.heap.size w w'))
       case atStart => exact ⟨(wrap64 (x5_16 + 1)), (by first | rfl | (simp; done) | (simp [*]; done)), H', ⟨Nat.le_refl _⟩, ⟨by (with_reducible repeat (first | refine ae_ ?_ _ | refine am_ ?_ | refine af_ ?_ _)); exact BK101.out⟩, ⟨by repeat (first | (with_reducible first | exact HB.out | apply bA_ | apply bN_ | apply bD_ | refine al_ ?_ GE101.out) | exact HB.out)⟩⟩
       case round =>
        clear H'
        obtain ⟨x6_3, rfl, HA, HK3, BK101, HB⟩ := hrel
        cases gk with
        | zero => exact absurd HA.out (by simp [ac_.l1])
        | succ k3 =>
         have H := HA.out
         clear HA
         simp only [ac_.l1] at H
         by_cases c23 : x6_3 < (y102.size : Int)
         rotate_left
         ·rw [if_neg c23] at H
          have c23b0 : decide (x6_3 < (y102.size : Int)) = false := decide_eq_false c23
          clear c23
          (first | rw [c23b0] | (simp only [i64_w, i32_w]; rw [c23b0]) | (simp only [c23b1, Bool.not_true, Bool.not_false]) | (simp only [c23b0, Bool.not_true, Bool.not_false]) | skip)
          have H' := Aside0.mk H
          clear H
          go_wp2
          go_meet
          case rel => exact ⟨_, (x6_3), (by first | rfl | (simp; done) | (simp [*]; done)), H', ⟨by have := HJ1.out; have := HJ16.out; have := HK3.out; first | omega | exact Nat.le_refl _⟩, ⟨by (with_reducible repeat (first | refine ae_ ?_ _ | refine am_ ?_ | refine af_ ?_ _)); exact BK101.out⟩, ⟨by repeat (first | (with_reducible first | exact HB.out | apply bA_ | apply bN_ | apply bD_ | refine al_ ?_ GE101.out) | exact HB.out)⟩⟩
         rw [if_pos c23] at H
         have c23b0 : decide (x6_3 < (y102.size : Int)) = true := decide_eq_true c23
         clear c23
         (first | rw [c23b0] | (simp only [i64_w, i32_w]; rw [c23b0]) | (simp only [c23b1, Bool.not_true, Bool.not_false]) | (simp only [c23b0, Bool.not_true, Bool.not_false]) | skip)
         by_cases c24 : 0 ≤ x6_3
         rotate_left
         ·rw [if_neg c24] at H
          exact absurd H (by simp)
         rw [if_pos c24] at H
         have c24b0 : decide (0 ≤ x6_3) = true := decide_eq_true c24
         clear c24
         by_cases c26 : (bt y102 x6_3) = 32
         rotate_left
         ·rw [if_neg c26] at H
          have c26b0 : ((bt y102 x6_3) == 32) = false := beq_eq_false_iff_ne.mpr c26
          have c26b1 : ((bt y102 x6_3) != 32) = true := bne_iff_ne.mpr c26
          have H' := Aside0.mk H
          clear H
          have p25 : 0 ≤ (x6_3 : Int) := of_decide_eq_true (by assumption)
          have q25 : x6_3 < (y102.size : Int) := of_decide_eq_true (by assumption)
          have hx25 := bt_at y102 x6_3
          replace p25 := eq_true p25
          replace q25 := eq_true q25
          go_wp2
          go_roundg k3
          case measure => have := HJ1.out; have := HJ16.out; have := HK3.out; omega
          case rel => exact ⟨(wrap64 (x6_3 + 1)), (by first | rfl | (simp; done) | (simp [*]; done)), H', ⟨by have := HJ1.out; have := HJ16.out; have := HK3.out; omega⟩, ⟨by (with_reducible repeat (first | refine ae_ ?_ _ | refine am_ ?_ | refine af_ ?_ _)); exact BK101.out⟩, ⟨by repeat (first | (with_reducible first | exact HB.out | apply bA_ | apply bN_ | apply bD_ | refine al_ ?_ GE101.out) | exact HB.out)⟩⟩
         rw [if_pos c26] at H
         have c26b0 : ((bt y102 x6_3) == 32) = true := beq_iff_eq.mpr c26
         have c26b1 : ((bt y102 x6_3) != 32) = false := bne_eq_false_iff_eq.mpr c26
         clear c26
         have H' := Aside0.mk H
         clear H
         have p25 : 0 ≤ (x6_3 : Int) := of_decide_eq_true (by assumption)
         have q25 : x6_3 < (y102.size : Int) := of_decide_eq_true (by assumption)
         have hx25 := bt_at y102 x6_3
         replace p25 := eq_true p25
         replace q25 := eq_true q25
         go_wp2
         go_meet
         case rel => exact ⟨_, (x6_3), (by first | rfl | (simp; done) | (simp [*]; done)), H', ⟨by have := HJ1.out; have := HJ16.out; have := HK3.out; first | omega | exact Nat.le_refl _⟩, ⟨by (with_reducible repeat (first | refine ae_ ?_ _ | refine am_ ?_ | refine af_ ?_ _)); exact BK101.out⟩, ⟨by repeat (first | (with_reducible first | exact HB.out | apply bA_ | apply bN_ | apply bD_ | refine al_ ?_ GE101.out) | exact HB.out)⟩⟩
      case rest =>
       clear HC22
       obtain ⟨kq, x6_21, rfl, HA, HJ21, BK101, HB⟩ := hcut
       cases kq with
       | zero => exact absurd HA.out (by simp [ac_.j4])
       | succ kj21 =>
        have H := HA.out
        clear HA
        simp only [ac_.j4] at H
        by_cases c27 : x6_21 ≥ (y102.size : Int)
        rotate_left
        ·rw [if_neg c27] at H
         have c27b0 : decide ((y102.size : Int) ≤ x6_21) = false := decide_eq_false c27
         clear c27
         by_cases c29 : 0 ≤ x5_16
         rotate_left
         ·rw [if_neg c29] at H
          exact absurd H (by simp)
         rw [if_pos c29] at H
         have c29b0 := eq_true c29
         have c29b1 : decide (0 ≤ x5_16) = true := decide_eq_true c29
         clear c29
         by_cases c30 : x5_16 ≤ (y102.size : Int)
         rotate_left
         ·rw [if_neg c30] at H
          exact absurd H (by simp)
         rw [if_pos c30] at H
         have c30b0 := eq_true c30
         have c30b1 : decide (x5_16 ≤ (y102.size : Int)) = true := decide_eq_true c30
         clear c30
         obtain ⟨y106, hy106⟩ : ∃ y_ : ByteArray, y_ = (y102.extract 0 (x5_16 : Int).toNat) := ⟨_, rfl⟩
         replace H : (if 0 ≤ (wrap64 (x5_16 + 1)) then (if (wrap64 (x5_16 + 1)) ≤ x6_21 then (if x6_21 ≤ (y102.size : Int) then ((some (y102.extract ((wrap64 (x5_16 + 1)) : Int).toNat (x6_21 : Int).toNat : ByteArray)).bind fun y107 => (if 0 ≤ (wrap64 (x6_21 + 1)) then (if (wrap64 (x6_21 + 1)) ≤ (y102.size : Int) then ((some (y102.extract ((wrap64 (x6_21 + 1)) : Int).toNat y102.size : ByteArray)).bind fun y108 => ((aP_.f kj21 [(⟨y106, y107, y108⟩ : S43)]).bind fun t110 => (if t110 = true then (some (y106, y107, y108, 0)) else (some ((⟨#[]⟩ : ByteArray), (⟨#[]⟩ : ByteArray), (⟨#[]⟩ : ByteArray), 9))))) else (none)) else (none))) else (none)) else (none)) else (none)) = some (r1, r2, r3, r4) := by first | (rw [hy106]; with_reducible exact H) | (have H2_ := (Option.bind_some _ _).symm.trans H; rw [hy106]; with_reducible exact H2_) | (have H2_ := (Option.bind_some _ _).symm.trans H; with_reducible exact H2_) | with_reducible exact H | (rw [hy106]; exact H) | exact H
         have Ny106 := Aside0.mk hy106
         clear hy106
         have Sy106 := Ny106.out.symm
         obtain ⟨ji31, hji31⟩ : ∃ j_ : Int, (wrap64 (x5_16 + 1)) = j_ := ⟨_, rfl⟩
         replace H : (if 0 ≤ (ji31) then (if (ji31) ≤ x6_21 then (if x6_21 ≤ (y102.size : Int) then ((some (y102.extract ((ji31) : Int).toNat (x6_21 : Int).toNat : ByteArray)).bind fun y107 => (if 0 ≤ (wrap64 (x6_21 + 1)) then (if (wrap64 (x6_21 + 1)) ≤ (y102.size : Int) then ((some (y102.extract ((wrap64 (x6_21 + 1)) : Int).toNat y102.size : ByteArray)).bind fun y108 => ((aP_.f kj21 [(⟨y106, y107, y108⟩ : S43)]).bind fun t110 => (if t110 = true then (some (y106, y107, y108, 0)) else (some ((⟨#[]⟩ : ByteArray), (⟨#[]⟩ : ByteArray), (⟨#[]⟩ : ByteArray), 9))))) else (none)) else (none))) else (none)) else (none)) else (none)) = some (r1, r2, r3, r4) := by first | (rw [hji31] at H; exact H) | (simp only [hji31] at H ⊢; exact H)
         have hji31w : (IntKind.i64.wrap (x5_16 + 1)) = ji31 := (i64_w _).trans hji31
         by_cases c32 : 0 ≤ (ji31)
         rotate_left
         ·rw [if_neg c32] at H
          exact absurd H (by simp)
         rw [if_pos c32] at H
         have c32b0 := eq_true c32
         have c32b1 : decide (0 ≤ (ji31)) = true := decide_eq_true c32
         clear c32
         by_cases c33 : (ji31) ≤ x6_21
         rotate_left
         ·rw [if_neg c33] at H
          exact absurd H (by simp)
         rw [if_pos c33] at H
         have c33b0 := eq_true c33
         have c33b1 : decide ((ji31) ≤ x6_21) = true := decide_eq_true c33
         clear c33
         by_cases c34 : x6_21 ≤ (y102.size : Int)
         rotate_left
         ·rw [if_neg c34] at H
          exact absurd H (by simp)
         rw [if_pos c34] at H
         have c34b0 := eq_true c34
         have c34b1 : decide (x6_21 ≤ (y102.size : Int)) = true := decide_eq_true c34
         clear c34
         obtain ⟨y107, hy107⟩ : ∃ y_ : ByteArray, y_ = (y102.extract ((ji31) : Int).toNat (x6_21 : Int).toNat) := ⟨_, rfl⟩
         replace H : (if 0 ≤ (wrap64 (x6_21 + 1)) then (if (wrap64 (x6_21 + 1)) ≤ (y102.size : Int) then ((some (y102.extract ((wrap64 (x6_21 + 1)) : Int).toNat y102.size : ByteArray)).bind fun y108 => ((aP_.f kj21 [(⟨y106, y107, y108⟩ : S43)]).bind fun t110 => (if t110 = true then (some (y106, y107, y108, 0)) else (some ((⟨#[]⟩ : ByteArray), (⟨#[]⟩ : ByteArray), (⟨#[]⟩ : ByteArray), 9))))) else (none)) else (none)) = some (r1, r2, r3, r4) := by first | (rw [hy107]; with_reducible exact H) | (have H2_ := (Option.bind_some _ _).symm.trans H; rw [hy107]; with_reducible exact H2_) | (have H2_ := (Option.bind_some _ _).symm.trans H; with_reducible exact H2_) | with_reducible exact H | (rw [hy107]; exact H) | exact H
         have Ny107 := Aside0.mk hy107
         clear hy107
         have Sy107 := Ny107.out.symm
         obtain ⟨ji35, hji35⟩ : ∃ j_ : Int, (wrap64 (x6_21 + 1)) = j_ := ⟨_, rfl⟩
         replace H : (if 0 ≤ (ji35) then (if (ji35) ≤ (y102.size : Int) then ((some (y102.extract ((ji35) : Int).toNat y102.size : ByteArray)).bind fun y108 => ((aP_.f kj21 [(⟨y106, y107, y108⟩ : S43)]).bind fun t110 => (if t110 = true then (some (y106, y107, y108, 0)) else (some ((⟨#[]⟩ : ByteArray), (⟨#[]⟩ : ByteArray), (⟨#[]⟩ : ByteArray), 9))))) else (none)) else (none)) = some (r1, r2, r3, r4) := by first | (rw [hji35] at H; exact H) | (simp only [hji35] at H ⊢; exact H)
         have hji35w : (IntKind.i64.wrap (x6_21 + 1)) = ji35 := (i64_w _).trans hji35
         by_cases c36 : 0 ≤ (ji35)
         rotate_left
         ·rw [if_neg c36] at H
          exact absurd H (by simp)
         rw [if_pos c36] at H
         have c36b0 := eq_true c36
         have c36b1 : decide (0 ≤ (ji35)) = true := decide_eq_true c36
         clear c36
         by_cases c37 : (ji35) ≤ (y102.size : Int)
         rotate_left
         ·rw [if_neg c37] at H
          exact absurd H (by simp)
         rw [if_pos c37] at H
         have c37b0 := eq_true c37
         have c37b1 : decide ((ji35) ≤ (y102.size : Int)) = true := decide_eq_true c37
         clear c37
         obtain ⟨y108, hy108⟩ : ∃ y_ : ByteArray, y_ = (y102.extract ((ji35) : Int).toNat y102.size) := ⟨_, rfl⟩
         replace H : ((aP_.f kj21 [(⟨y106, y107, y108⟩ : S43)]).bind fun t110 => (if t110 = true then (some (y106, y107, y108, 0)) else (some ((⟨#[]⟩ : ByteArray), (⟨#[]⟩ : ByteArray), (⟨#[]⟩ : ByteArray), 9)))) = some (r1, r2, r3, r4) := by first | (rw [hy108]; with_reducible exact H) | (have H2_ := (Option.bind_some _ _).symm.trans H; rw [hy108]; with_reducible exact H2_) | (have H2_ := (Option.bind_some _ _).symm.trans H; with_reducible exact H2_) | with_reducible exact H | (rw [hy108]; exact H) | exact H
         have Ny108 := Aside0.mk hy108
         clear hy108
         have Sy108 := Ny108.out.symm
         replace H := Option.bind_eq_some_iff.mp H
         obtain ⟨t110, A380, H⟩ := H
         (try dsimp only at H)
         have A38 := Aside0.mk A380
         clear A380
         have HC39 := Aside0.mk H
         clear H
         try go_wp2
         (try (rw [bq_ wc]; generalize hq_ : World.drewN wc _ = wc; have n0_ : Aside0 (wc.heap[gb101]? = some (.cells #[.string (⟨#[]⟩ : ByteArray), .string (⟨#[]⟩ : ByteArray), .string (⟨#[]⟩ : ByteArray)] 43 (0, 0))) := ⟨by rw [← hq_]; exact (kz BK101.out)⟩; have n1_ : Aside0 (Below w.heap.size w wc) := ⟨by rw [← hq_]; exact (by repeat (first | (with_reducible first | exact HB.out | apply bA_ | apply bN_ | apply bD_ | refine al_ ?_ GE101.out) | exact HB.out))⟩; clear BK101 HB hq_; have BK101 := n0_; have HB := n1_; clear n0_ n1_))
         have n0_ := Aside0.mk (am_ BK101.out)
         have n1_ := Aside0.mk (bD_ HB.out)
         clear BK101
         clear HB
         have BK101 := n0_
         have HB := n1_
         clear n0_ n1_
         refine start_ (n := 15) (S := fun w' => True) (ds := []) #[f_,f_,f_,f_,f_,f_,f_,f_,f_,f_,f_,f_,f_,f_,f_] (by kernel_rfl) rfl rfl trivial (fun hHeld => ?_); refine bE_ ac_.tab14 ac_.bits14 (fun HT_ HW_ => ?_)
         generalize wc.drew = w40 at BK101 HB hHeld ⊢
         refine pure_ (i := 0) (N := some 57) (v := ?_) (a' := ?_) #[t_,f_,f_,f_,f_,f_,f_,f_,f_,f_,f_,f_,f_,f_,f_] rfl rfl (aD_ HT_.out (by kernel_rfl)) (fun _ _ _ h => h) (Or.inl ⟨by rfl, ?_⟩) ?_ ?_
         rotate_left
         ·intro w'
          go_simp
          with_reducible rfl
         rotate_left
         ·simp only [Act.put, lsa_, ls0_, ls1_, i64_w, i32_w]
          rfl
         refine pure_ (i := 1) (N := some 58) (v := ?_) (a' := ?_) #[t_,t_,f_,f_,f_,f_,f_,f_,f_,f_,f_,f_,f_,f_,f_] rfl rfl (aD_ HT_.out (by kernel_rfl)) (fun _ _ _ h => h) (Or.inl ⟨by rfl, ?_⟩) ?_ ?_
         rotate_left
         ·intro w'
          go_simp
          with_reducible rfl
         rotate_left
         ·simp only [Act.put, lsa_, ls0_, ls1_, i64_w, i32_w]
          rfl
         refine pure_ (i := 2) (N := some 59) (v := ?_) (a' := ?_) #[t_,t_,t_,f_,f_,f_,f_,f_,f_,f_,f_,f_,f_,f_,f_] rfl rfl (aD_ HT_.out (by kernel_rfl)) (fun _ _ _ h => h) (Or.inl ⟨by rfl, ?_⟩) ?_ ?_
         rotate_left
         ·intro w'
          go_simp
          with_reducible rfl
         rotate_left
         ·simp only [Act.put, lsa_, ls0_, ls1_, i64_w, i32_w]
          rfl
         refine pure_ (i := 3) (N := some 60) (v := ?_) (a' := ?_) #[t_,t_,t_,t_,f_,f_,f_,f_,f_,f_,f_,f_,f_,f_,f_] rfl rfl (aD_ HT_.out (by kernel_rfl)) (fun _ _ _ h => h) (Or.inl ⟨by rfl, ?_⟩) ?_ ?_
         rotate_left
         ·intro w'
          go_simp
          with_reducible rfl
         rotate_left
         ·simp only [Act.put, lsa_, ls0_, ls1_, i64_w, i32_w]
          rfl
         refine pure_ (i := 4) (N := some 61) (v := ?_) (a' := ?_) #[t_,t_,t_,t_,t_,f_,f_,f_,f_,f_,f_,f_,f_,f_,f_] rfl rfl (aD_ HT_.out (by kernel_rfl)) (fun _ _ _ h => h) (Or.inl ⟨by rfl, ?_⟩) ?_ ?_
         rotate_left
         ·intro w'
          go_simp
          with_reducible rfl
         rotate_left
         ·simp only [Act.put, lsa_, ls0_, ls1_, i64_w, i32_w]
          rfl
         refine pure_ (i := 5) (N := some 62) (v := ?_) (a' := ?_) #[t_,t_,t_,t_,t_,t_,f_,f_,f_,f_,f_,f_,f_,f_,f_] rfl rfl (aD_ HT_.out (by kernel_rfl)) (fun _ _ _ h => h) (Or.inl ⟨by rfl, ?_⟩) ?_ ?_
         rotate_left
         ·intro w'
          go_simp
          with_reducible rfl
         rotate_left
         ·simp only [Act.put, lsa_, ls0_, ls1_, i64_w, i32_w]
          rfl
         refine pure_ (i := 6) (N := some 63) (v := ?_) (a' := ?_) #[t_,t_,t_,t_,t_,t_,t_,f_,f_,f_,f_,f_,f_,f_,f_] rfl rfl (aD_ HT_.out (by kernel_rfl)) (fun _ _ _ h => h) (Or.inl ⟨by rfl, ?_⟩) ?_ ?_
         rotate_left
         ·intro w'
          go_simp
          with_reducible rfl
         rotate_left
         ·simp only [Act.put, lsa_, ls0_, ls1_, i64_w, i32_w]
          rfl
         refine pure_ (i := 7) (N := some 64) (v := ?_) (a' := ?_) #[t_,t_,t_,t_,t_,t_,t_,t_,f_,f_,f_,f_,f_,f_,f_] rfl rfl (aD_ HT_.out (by kernel_rfl)) (fun _ _ _ h => h) (Or.inl ⟨by rfl, ?_⟩) ?_ ?_
         rotate_left
         ·intro w'
          go_simp
          with_reducible rfl
         rotate_left
         ·simp only [Act.put, lsa_, ls0_, ls1_, i64_w, i32_w]
          rfl
         refine pure_ (i := 8) (N := some 65) (v := ?_) (a' := ?_) #[t_,t_,t_,t_,t_,t_,t_,t_,t_,f_,f_,f_,f_,f_,f_] rfl rfl (aD_ HT_.out (by kernel_rfl)) (fun _ _ _ h => h) (Or.inl ⟨by rfl, ?_⟩) ?_ ?_
         rotate_left
         ·intro w'
          go_simp
          with_reducible rfl
         rotate_left
         ·simp only [Act.put, lsa_, ls0_, ls1_, i64_w, i32_w]
          rfl
         refine pure_ (i := 9) (N := some 66) (v := ?_) (a' := ?_) #[t_,t_,t_,t_,t_,t_,t_,t_,t_,t_,f_,f_,f_,f_,f_] rfl rfl (aD_ HT_.out (by kernel_rfl)) (fun _ _ _ h => h) (Or.inl ⟨by rfl, ?_⟩) ?_ ?_
         rotate_left
         ·intro w'
          go_simp
          with_reducible rfl
         rotate_left
         ·simp only [Act.put, lsa_, ls0_, ls1_, i64_w, i32_w]
          rfl
         refine pure_ (i := 10) (N := some 67) (v := ?_) (a' := ?_) #[t_,t_,t_,t_,t_,t_,t_,t_,t_,t_,t_,f_,f_,f_,f_] rfl rfl (aD_ HT_.out (by kernel_rfl)) (fun _ _ _ h => h) (Or.inl ⟨by rfl, ?_⟩) ?_ ?_
         rotate_left
         ·intro w'
          go_simp
          with_reducible rfl
         rotate_left
         ·simp only [Act.put, lsa_, ls0_, ls1_, i64_w, i32_w]
          rfl
         refine pure_ (i := 11) (N := some 68) (v := ?_) (a' := ?_) #[t_,t_,t_,t_,t_,t_,t_,t_,t_,t_,t_,t_,f_,f_,f_] rfl rfl (aD_ HT_.out (by kernel_rfl)) (fun _ _ _ h => h) (Or.inl ⟨by rfl, ?_⟩) ?_ ?_
         rotate_left
         ·intro w'
          go_simp
          with_reducible rfl
         rotate_left
         ·simp only [Act.put, lsa_, ls0_, ls1_, i64_w, i32_w]
          rfl
         refine pure_ (i := 12) (N := some 69) (v := ?_) (a' := ?_) #[t_,t_,t_,t_,t_,t_,t_,t_,t_,t_,t_,t_,t_,f_,f_] rfl rfl (aD_ HT_.out (by kernel_rfl)) (fun _ _ _ h => h) (Or.inl ⟨by rfl, ?_⟩) ?_ ?_
         rotate_left
         ·intro w'
          go_simp
          with_reducible rfl
         rotate_left
         ·simp only [Act.put, lsa_, ls0_, ls1_, i64_w, i32_w]
          rfl
         refine one_ (i := 13) (N := some 7) #[t_,t_,t_,t_,t_,t_,t_,t_,t_,t_,t_,t_,t_,t_,f_] rfl rfl (one_of HT_.out (by kernel_rfl)) (by decide) (fun K hK => ?_)
         refine box_step ?hg (N := 7) ?hd (cs := #[.string (⟨#[]⟩ : ByteArray), .string (⟨#[]⟩ : ByteArray), .string (⟨#[]⟩ : ByteArray)]) (t := 43) ?hr ?_; (case hd => rfl); (case hg => rfl); (case hr => (go_simp; try rfl))
         intro gb109 hg w41 hbox hb
         have n0_ := Aside0.mk (bv_ (g := gb101) (o := .cells #[.string (⟨#[]⟩ : ByteArray), .string (⟨#[]⟩ : ByteArray), .string (⟨#[]⟩ : ByteArray)] 43 (0, 0)) (kz BK101.out) hb)
         have n1_ := Aside0.mk (au_ (by repeat (first | (with_reducible first | exact HB.out | apply bA_ | apply bN_ | apply bD_ | refine al_ ?_ GE101.out) | exact HB.out)) hb)
         have n2_ := Aside0.mk (hbox)
         have n3_ := Aside0.mk ((by rw [hg]; exact (aw_ (by repeat (first | (with_reducible first | exact HB.out | apply bA_ | apply bN_ | apply bD_ | refine al_ ?_ GE101.out) | exact HB.out))) : w.heap.size ≤ gb109))
         have n4_ := Aside0.mk ((by rw [hg]; exact (aw_ (by repeat (first | (with_reducible first | exact HB.out | apply bA_ | apply bN_ | apply bD_ | refine al_ ?_ GE101.out) | exact HB.out))) : w.heap.size ≤ gb109))
         have n5_ := Aside0.mk ((by rw [hg]; exact Nat.ne_of_lt (blk_lt (g := gb101) (o := .cells #[.string (⟨#[]⟩ : ByteArray), .string (⟨#[]⟩ : ByteArray), .string (⟨#[]⟩ : ByteArray)] 43 (0, 0)) (kz BK101.out)) : gb101 ≠ gb109))
         have n6_ := Aside0.mk ((by rw [hg]; exact Nat.ne_of_gt (blk_lt (g := gb101) (o := .cells #[.string (⟨#[]⟩ : ByteArray), .string (⟨#[]⟩ : ByteArray), .string (⟨#[]⟩ : ByteArray)] 43 (0, 0)) (kz BK101.out)) : gb109 ≠ gb101))
         clear BK101
         clear HB
         have BK101 := n0_
         have HB := n1_
         have BK109 := n2_
         have GW109 := n3_
         have GE109 := n4_
         have NB101_109 := n5_
         have NB109_101 := n6_
         clear n0_ n1_ n2_ n3_ n4_ n5_ n6_
         clear hb hbox hg
         refine hK.out _ _ trivial (fun hHeld => ?_)
         clear hK K
         refine norm_ (a' := ?_) ?_ ?_
         rotate_left
         ·show Act.put _ (some 7) _ = _
          simp only [Act.put, lsa_, ls0_, ls1_, i64_w, i32_w]
          rfl
         refine one_ (i := 14) (N := none) #[t_,t_,t_,t_,t_,t_,t_,t_,t_,t_,t_,t_,t_,t_,t_] rfl rfl (one_of HT_.out (by kernel_rfl)) (by decide) (fun K hK => ?_)
         have hs42 : w41.cell? ⟨gb109, 0, none⟩ = some (.string (⟨#[]⟩ : ByteArray)) := (ai_ BK109.out 0).trans rfl
         have hfs42 := ab_ BK109.out 0
         have hns42_0 := NB101_109.out
         have hms42_0 := NB109_101.out
         have hs43 : w41.cell? ⟨gb109, 1, none⟩ = some (.string (⟨#[]⟩ : ByteArray)) := (ai_ BK109.out 1).trans rfl
         have hfs43 := ab_ BK109.out 1
         have hns43_0 := NB101_109.out
         have hms43_0 := NB109_101.out
         have hs44 : w41.cell? ⟨gb109, 2, none⟩ = some (.string (⟨#[]⟩ : ByteArray)) := (ai_ BK109.out 2).trans rfl
         have hfs44 := ab_ BK109.out 2
         have hns44_0 := NB101_109.out
         have hms44_0 := NB109_101.out
         refine skip_ (w1 := ?_) (by rfl) rfl ?_ ?_
         rotate_left
         ·go_simp
          rfl
         refine hK.out _ _ trivial (fun hHeld => ?_)
         clear hK K
         refine done_ (done_of HT_.out (by kernel_rfl)) ?_
         go_upto_if 71 with (first | ((with_reducible refine as_ (f := 49) rfl ?_); refine aY_ (some 70) rfl rfl Tryd.func49 (by kernel_rfl) rfl #[.pointer (some (Addr.add ⟨gb109, 0, none⟩ 0))] rfl (by first | rfl | (simp only [List.map_toArray, List.map_cons, List.map_nil]; first | done | rfl)) ?_; (with_reducible refine (aP_.calls kj21 _ [(⟨y106, y107, y108⟩ : S43)] t110 _ ?side1 A38.out).mono ?_); (case side1 => exact (RPW.C_blk (cs := [.string y106, .string y107, .string y108]) (t := 43) (g := gb109) (by (with_reducible repeat (first | refine ae_ ?_ _ | refine am_ ?_ | refine af_ ?_ _)); refine aI_ (cs := #[.string y106, .string y107, .string (⟨#[]⟩ : ByteArray)]) ?_ 2 _ rfl; (with_reducible repeat (first | refine ae_ ?_ _ | refine am_ ?_ | refine af_ ?_ _)); refine aI_ (cs := #[.string y106, .string (⟨#[]⟩ : ByteArray), .string (⟨#[]⟩ : ByteArray)]) ?_ 1 _ rfl; (with_reducible repeat (first | refine ae_ ?_ _ | refine am_ ?_ | refine af_ ?_ _)); refine aI_ (cs := #[.string (⟨#[]⟩ : ByteArray), .string (⟨#[]⟩ : ByteArray), .string (⟨#[]⟩ : ByteArray)]) ?_ 0 _ rfl; (with_reducible repeat (first | refine ae_ ?_ _ | refine am_ ?_ | refine af_ ?_ _)); exact BK109.out) (k43_mk _ (⟨y106, y107, y108⟩ : S43)))); rintro e w' ⟨rfl, ⟨nd, rfl⟩⟩; refine ⟨_, rfl, ?_⟩))
         (try simp only [Act.put, lsa_, ls0_, ls1_])
         have H := HC39.out
         clear HC39
         by_cases c45 : t110 = true
         rotate_left
         ·replace c45 := Bool.eq_false_iff.mpr c45
          subst c45
          have H1 : (some ((⟨#[]⟩ : ByteArray), (⟨#[]⟩ : ByteArray), (⟨#[]⟩ : ByteArray), 9)) = some (r1, r2, r3, r4) := by rw [if_neg (show ¬ (false = true) by decide)] at H; exact H
          clear H
          have H := H1
          clear H1
          simp only [Option.some.injEq, Prod.mk.injEq] at H
          obtain ⟨rfl, rfl, rfl, rfl⟩ := H
          have hnb49 := NB101_109.out
          have hnc49 := NB109_101.out
          have hcz50_0 : w41.cell? ⟨gb101, 0, none⟩ = some (.string (⟨#[]⟩ : ByteArray)) := (ai_ BK101.out 0).trans rfl
          have hcz50_1 : w41.cell? ⟨gb101, 1, none⟩ = some (.string (⟨#[]⟩ : ByteArray)) := (ai_ BK101.out 1).trans rfl
          have hcz50_2 : w41.cell? ⟨gb101, 2, none⟩ = some (.string (⟨#[]⟩ : ByteArray)) := (ai_ BK101.out 2).trans rfl
          have hfz50_0 := ab_ BK101.out 0
          have hfz50_1 := ab_ BK101.out 1
          have hfz50_2 := ab_ BK101.out 2
          go_wp2
          refine bodyPost_ret (bt_ rfl _ _ gb101 43 #[.string (⟨#[]⟩ : ByteArray), .string (⟨#[]⟩ : ByteArray), .string (⟨#[]⟩ : ByteArray)] (0, 0) _ rfl (by (with_reducible repeat (first | refine ae_ ?_ _ | refine am_ ?_ | refine af_ ?_ _)); refine aI_ (cs := #[.string (⟨#[]⟩ : ByteArray), .string (⟨#[]⟩ : ByteArray), .string (⟨#[]⟩ : ByteArray)]) ?_ 2 _ rfl; (with_reducible repeat (first | refine ae_ ?_ _ | refine am_ ?_ | refine af_ ?_ _)); refine aI_ (cs := #[.string (⟨#[]⟩ : ByteArray), .string (⟨#[]⟩ : ByteArray), .string (⟨#[]⟩ : ByteArray)]) ?_ 1 _ rfl; (with_reducible repeat (first | refine ae_ ?_ _ | refine am_ ?_ | refine af_ ?_ _)); refine aI_ (cs := #[.string (⟨#[]⟩ : ByteArray), .string (⟨#[]⟩ : ByteArray), .string (⟨#[]⟩ : ByteArray)]) ?_ 0 _ rfl; (with_reducible repeat (first | refine ae_ ?_ _ | refine am_ ?_ | refine af_ ?_ _)); refine blk_far ?_ NB101_109.out _; (with_reducible repeat (first | refine ae_ ?_ _ | refine am_ ?_ | refine af_ ?_ _)); refine blk_far ?_ NB101_109.out _; (with_reducible repeat (first | refine ae_ ?_ _ | refine am_ ?_ | refine af_ ?_ _)); refine blk_far ?_ NB101_109.out _; (with_reducible repeat (first | refine ae_ ?_ _ | refine am_ ?_ | refine af_ ?_ _)); exact BK101.out) Tryd.underlying43 rfl (by kernel_rfl)) rfl ?_
          exact ⟨by first | rfl | (simp [ap_, aq_] <;> rfl) | (simp only [← hji31, ← hji35]; first | rfl | (simp [ap_, aq_] <;> rfl)) | (simp [*, ap_, aq_] <;> rfl), by repeat (first | (with_reducible first | exact HB.out | apply bA_ | apply bN_ | apply bD_ | refine al_ ?_ GE101.out | refine al_ ?_ GE109.out) | exact HB.out)⟩
         subst c45
         have H1 : (some (y106, y107, y108, 0)) = some (r1, r2, r3, r4) := by rw [if_pos rfl] at H; exact H
         clear H
         have H := H1
         clear H1
         simp only [Option.some.injEq, Prod.mk.injEq] at H
         obtain ⟨rfl, rfl, rfl, rfl⟩ := H
         have hnb46 := NB109_101.out
         have hnc46 := NB101_109.out
         have hcz47_0 : w41.cell? ⟨gb109, 0, none⟩ = some (.string (⟨#[]⟩ : ByteArray)) := (ai_ BK109.out 0).trans rfl
         have hcz47_1 : w41.cell? ⟨gb109, 1, none⟩ = some (.string (⟨#[]⟩ : ByteArray)) := (ai_ BK109.out 1).trans rfl
         have hcz47_2 : w41.cell? ⟨gb109, 2, none⟩ = some (.string (⟨#[]⟩ : ByteArray)) := (ai_ BK109.out 2).trans rfl
         have hfz47_0 := ab_ BK109.out 0
         have hfz47_1 := ab_ BK109.out 1
         have hfz47_2 := ab_ BK109.out 2
         have hcz48_0 : w41.cell? ⟨gb101, 0, none⟩ = some (.string (⟨#[]⟩ : ByteArray)) := (ai_ BK101.out 0).trans rfl
         have hcz48_1 : w41.cell? ⟨gb101, 1, none⟩ = some (.string (⟨#[]⟩ : ByteArray)) := (ai_ BK101.out 1).trans rfl
         have hcz48_2 : w41.cell? ⟨gb101, 2, none⟩ = some (.string (⟨#[]⟩ : ByteArray)) := (ai_ BK101.out 2).trans rfl
         have hfz48_0 := ab_ BK101.out 0
         have hfz48_1 := ab_ BK101.out 1
         have hfz48_2 := ab_ BK101.out 2
         go_wp2
         refine bodyPost_ret (bt_ rfl _ _ gb101 43 #[.string y106, .string y107, .string y108] (0, 0) _ rfl (by (with_reducible repeat (first | refine ae_ ?_ _ | refine am_ ?_ | refine af_ ?_ _)); refine aI_ (cs := #[.string y106, .string y107, .string (⟨#[]⟩ : ByteArray)]) ?_ 2 _ rfl; (with_reducible repeat (first | refine ae_ ?_ _ | refine am_ ?_ | refine af_ ?_ _)); refine aI_ (cs := #[.string y106, .string (⟨#[]⟩ : ByteArray), .string (⟨#[]⟩ : ByteArray)]) ?_ 1 _ rfl; (with_reducible repeat (first | refine ae_ ?_ _ | refine am_ ?_ | refine af_ ?_ _)); refine aI_ (cs := #[.string (⟨#[]⟩ : ByteArray), .string (⟨#[]⟩ : ByteArray), .string (⟨#[]⟩ : ByteArray)]) ?_ 0 _ rfl; (with_reducible repeat (first | refine ae_ ?_ _ | refine am_ ?_ | refine af_ ?_ _)); refine blk_far ?_ NB101_109.out _; (with_reducible repeat (first | refine ae_ ?_ _ | refine am_ ?_ | refine af_ ?_ _)); refine blk_far ?_ NB101_109.out _; (with_reducible repeat (first | refine ae_ ?_ _ | refine am_ ?_ | refine af_ ?_ _)); refine blk_far ?_ NB101_109.out _; (with_reducible repeat (first | refine ae_ ?_ _ | refine am_ ?_ | refine af_ ?_ _)); exact BK101.out) Tryd.underlying43 rfl (by kernel_rfl)) rfl ?_
         exact ⟨by first | rfl | (simp [ap_, aq_] <;> rfl) | (simp only [← hji31, ← hji35]; first | rfl | (simp [ap_, aq_] <;> rfl)) | (simp [*, ap_, aq_] <;> rfl), by repeat (first | (with_reducible first | exact HB.out | apply bA_ | apply bN_ | apply bD_ | refine al_ ?_ GE101.out | refine al_ ?_ GE109.out) | exact HB.out)⟩
        rw [if_pos c27] at H
        have c27b0 : decide ((y102.size : Int) ≤ x6_21) = true := decide_eq_true c27
        clear c27
        simp only [Option.some.injEq, Prod.mk.injEq] at H
        obtain ⟨rfl, rfl, rfl, rfl⟩ := H
        have hcz28_0 : wc.cell? ⟨gb101, 0, none⟩ = some (.string (⟨#[]⟩ : ByteArray)) := (ai_ BK101.out 0).trans rfl
        have hcz28_1 : wc.cell? ⟨gb101, 1, none⟩ = some (.string (⟨#[]⟩ : ByteArray)) := (ai_ BK101.out 1).trans rfl
        have hcz28_2 : wc.cell? ⟨gb101, 2, none⟩ = some (.string (⟨#[]⟩ : ByteArray)) := (ai_ BK101.out 2).trans rfl
        have hfz28_0 := ab_ BK101.out 0
        have hfz28_1 := ab_ BK101.out 1
        have hfz28_2 := ab_ BK101.out 2
        go_wp2
        refine bodyPost_ret (bt_ rfl _ _ gb101 43 #[.string (⟨#[]⟩ : ByteArray), .string (⟨#[]⟩ : ByteArray), .string (⟨#[]⟩ : ByteArray)] (0, 0) _ rfl (by (with_reducible repeat (first | refine ae_ ?_ _ | refine am_ ?_ | refine af_ ?_ _)); refine aI_ (cs := #[.string (⟨#[]⟩ : ByteArray), .string (⟨#[]⟩ : ByteArray), .string (⟨#[]⟩ : ByteArray)]) ?_ 2 _ rfl; (with_reducible repeat (first | refine ae_ ?_ _ | refine am_ ?_ | refine af_ ?_ _)); refine aI_ (cs := #[.string (⟨#[]⟩ : ByteArray), .string (⟨#[]⟩ : ByteArray), .string (⟨#[]⟩ : ByteArray)]) ?_ 1 _ rfl; (with_reducible repeat (first | refine ae_ ?_ _ | refine am_ ?_ | refine af_ ?_ _)); refine aI_ (cs := #[.string (⟨#[]⟩ : ByteArray), .string (⟨#[]⟩ : ByteArray), .string (⟨#[]⟩ : ByteArray)]) ?_ 0 _ rfl; (with_reducible repeat (first | refine ae_ ?_ _ | refine am_ ?_ | refine af_ ?_ _)); exact BK101.out) Tryd.underlying43 rfl (by kernel_rfl)) rfl ?_
        exact ⟨by first | rfl | (simp [*, ap_, aq_] <;> rfl), by repeat (first | (with_reducible first | exact HB.out | apply bA_ | apply bN_ | apply bD_ | refine al_ ?_ GE101.out) | exact HB.out)⟩
   subst c7
   have H1 : (some ((⟨#[]⟩ : ByteArray), (⟨#[]⟩ : ByteArray), (⟨#[]⟩ : ByteArray), 9)) = some (r1, r2, r3, r4) := by rw [if_pos rfl] at H; exact H
   clear H
   have H := H1
   clear H1
   simp only [Option.some.injEq, Prod.mk.injEq] at H
   obtain ⟨rfl, rfl, rfl, rfl⟩ := H
   have hcz8_0 : wc.cell? ⟨gb101, 0, none⟩ = some (.string (⟨#[]⟩ : ByteArray)) := (ai_ BK101.out 0).trans rfl
   have hcz8_1 : wc.cell? ⟨gb101, 1, none⟩ = some (.string (⟨#[]⟩ : ByteArray)) := (ai_ BK101.out 1).trans rfl
   have hcz8_2 : wc.cell? ⟨gb101, 2, none⟩ = some (.string (⟨#[]⟩ : ByteArray)) := (ai_ BK101.out 2).trans rfl
   have hfz8_0 := ab_ BK101.out 0
   have hfz8_1 := ab_ BK101.out 1
   have hfz8_2 := ab_ BK101.out 2
   go_wp2
   refine bodyPost_ret (bt_ rfl _ _ gb101 43 #[.string (⟨#[]⟩ : ByteArray), .string (⟨#[]⟩ : ByteArray), .string (⟨#[]⟩ : ByteArray)] (0, 0) _ rfl (by (with_reducible repeat (first | refine ae_ ?_ _ | refine am_ ?_ | refine af_ ?_ _)); refine aI_ (cs := #[.string (⟨#[]⟩ : ByteArray), .string (⟨#[]⟩ : ByteArray), .string (⟨#[]⟩ : ByteArray)]) ?_ 2 _ rfl; (with_reducible repeat (first | refine ae_ ?_ _ | refine am_ ?_ | refine af_ ?_ _)); refine aI_ (cs := #[.string (⟨#[]⟩ : ByteArray), .string (⟨#[]⟩ : ByteArray), .string (⟨#[]⟩ : ByteArray)]) ?_ 1 _ rfl; (with_reducible repeat (first | refine ae_ ?_ _ | refine am_ ?_ | refine af_ ?_ _)); refine aI_ (cs := #[.string (⟨#[]⟩ : ByteArray), .string (⟨#[]⟩ : ByteArray), .string (⟨#[]⟩ : ByteArray)]) ?_ 0 _ rfl; (with_reducible repeat (first | refine ae_ ?_ _ | refine am_ ?_ | refine af_ ?_ _)); exact BK101.out) Tryd.underlying43 rfl (by kernel_rfl)) rfl ?_
   exact ⟨by first | rfl | (simp [*, ap_, aq_] <;> rfl), by repeat (first | (with_reducible first | exact HB.out | apply bA_ | apply bN_ | apply bD_ | refine al_ ?_ GE101.out) | exact HB.out)⟩
mutual
def ag_.j0 : Nat → ByteArray → Int → Bool → Option (Int × Bool)
 | 0, _, _, _ => none
 | k + 1, x0, x4, x14 => if x14 = true then (ag_.j1 k x0 1) else (ag_.j1 k x0 x4)
def ag_.j1 : Nat → ByteArray → Int → Option (Int × Bool)
 | 0, _, _ => none
 | k + 1, x0, x4 => if (x0.size : Int) = x4 then (ag_.j2 k x0 x4 true) else (if (wrap64 ((x0.size : Int) - x4)) > 18 then (ag_.j2 k x0 x4 true) else (if 0 ≤ x4 then (if x4 < (x0.size : Int) then (if (bt x0 x4) = 48 then (ag_.j2 k x0 x4 (decide ((x0.size : Int) > 1))) else (ag_.j2 k x0 x4 false)) else (none)) else (none)))
def ag_.j2 : Nat → ByteArray → Int → Bool → Option (Int × Bool)
 | 0, _, _, _ => none
 | k + 1, x0, x4, x36 => if x36 = true then (some (0, false)) else (ag_.l0 k x0 x4 0 x4)
def ag_.l0 : Nat → ByteArray → Int → Int → Int → Option (Int × Bool)
 | 0, _, _, _, _ => none
 | k + 1, x0, x4, x5, x6 => if x6 < (x0.size : Int) then (if 0 ≤ x6 then ((bh_.f (bt x0 x6)).bind fun t101 => (if t101 = true then (ag_.l0 k x0 x4 (wrap64 ((wrap64 (10 * x5)) + (((bt x0 x6) - 48) % 256))) (wrap64 (x6 + 1))) else (some (0, false)))) else (none)) else (if x4 = 1 then (some (wrap64 (-x5), true)) else (some (x5, true)))
end
def ag_.f (k : Nat) (a0 : ByteArray) : Option (Int × Bool) := if (a0.size : Int) > 0 then (if 0 < (a0.size : Int) then (ag_.j0 k a0 0 ((bt a0 0) == 45)) else (none)) else (ag_.j0 k a0 0 false)
set_option maxHeartbeats 8000000 in
set_option maxRecDepth 100000 in
theorem ag_.calls (k : Nat) (a0 : ByteArray) (r1 : Int) (r2 : Bool) (w : World) (h : ag_.f k a0 = some (r1, r2)) :
  Calls Tryd.prog 54 #[.string a0] w fun e w' => e = .returned (.tuple #[.int .i64 r1, .bool r2]) ∧ ah_ w w' := by
 have H : (if (a0.size : Int) > 0 then (if 0 < (a0.size : Int) then (ag_.j0 k a0 0 ((bt a0 0) == 45)) else (none)) else (ag_.j0 k a0 0 false)) = some (r1, r2) := h
 clear h
 have HC2 := Aside0.mk H
 clear H
 go_enter Tryd.func54, Tryd.ntmps54
 go_upto_region 2 with (fail)
 go_cut [14] (fun v14 wc => ∃ (kq : Nat) (x14_1 : Bool), v14 = .bool x14_1 ∧ Aside0 (ag_.j0 kq a0 0 x14_1 = some (r1, r2)) ∧ Aside0 (kq ≤ k) ∧ ah_ w wc)
 case first =>
  have H := HC2.out
  clear HC2
  by_cases c3 : (a0.size : Int) > 0
  rotate_left
  ·rw [if_neg c3] at H
   have c3b0 : decide (0 < (a0.size : Int)) = false := decide_eq_false c3
   have c3b1 : decide (0 < a0.size) = false := decide_eq_false (by omega)
   clear c3
   (first | rw [c3b0] | (simp only [i64_w, i32_w]; rw [c3b0]) | (simp only [c3b1, Bool.not_true, Bool.not_false]) | (simp only [c3b0, Bool.not_true, Bool.not_false]) | skip)
   have H' := Aside0.mk H
   clear H
   go_wp2
   go_meet
   case rel => exact ⟨_, (false), (by first | rfl | (simp; done) | (simp [*]; done)), H', ⟨by first | omega | exact Nat.le_refl _⟩, by repeat (first | exact ah_.refl _ | apply ah_.step)⟩
  rw [if_pos c3] at H
  have c3b0 : decide (0 < (a0.size : Int)) = true := decide_eq_true c3
  have c3b1 : decide (0 < a0.size) = true := decide_eq_true (by omega)
  clear c3
  (first | rw [c3b0] | (simp only [i64_w, i32_w]; rw [c3b0]) | (simp only [c3b1, Bool.not_true, Bool.not_false]) | (simp only [c3b0, Bool.not_true, Bool.not_false]) | skip)
  by_cases c4 : 0 < (a0.size : Int)
  rotate_left
  ·rw [if_neg c4] at H
   exact absurd H (by simp)
  rw [if_pos c4] at H
  have c4b0 : decide (0 < (a0.size : Int)) = true := decide_eq_true c4
  have c4b1 : decide (0 < a0.size) = true := decide_eq_true (by omega)
  clear c4
  have H' := Aside0.mk H
  clear H
  have p5 : 0 ≤ (0 : Int) := (by omega)
  have q5 : 0 < a0.size := (by have : (0 : Int) < (a0.size : Int) := of_decide_eq_true (by assumption); omega)
  have hx5 : ∀ h : 0 < a0.size, ((a0[0]'h).toNat : Int) = bt a0 0 := bt_at a0 0
  clear p5
  have qi5 : (0 < (a0.size : Int)) = True := eq_true (of_decide_eq_true (by assumption))
  replace q5 := eq_true q5
  go_wp2
  go_meet
  case rel => exact ⟨_, (((bt a0 0) == 45)), (by first | rfl | (simp; done) | (simp [*]; done)), H', ⟨by first | omega | exact Nat.le_refl _⟩, by repeat (first | exact ah_.refl _ | apply ah_.step)⟩
 case rest =>
  clear HC2
  obtain ⟨kq, x14_1, rfl, HA, HJ1, ⟨mc1, rfl⟩⟩ := hcut
  cases kq with
  | zero => exact absurd HA.out (by simp [ag_.j0])
  | succ kj1 =>
   have H := HA.out
   clear HA
   simp only [ag_.j0] at H
   have HC6 := Aside0.mk H
   clear H
   go_upto_if 14 with (fail)
   go_cut [4] (fun v4 wc => ∃ (kq : Nat) (x4_5 : Int), v4 = .int .i64 x4_5 ∧ Aside0 (ag_.j1 kq a0 x4_5 = some (r1, r2)) ∧ Aside0 (kq ≤ kj1) ∧ ah_ w wc)
   case first =>
    have H := HC6.out
    clear HC6
    by_cases c7 : x14_1 = true
    rotate_left
    ·replace c7 := Bool.eq_false_iff.mpr c7
     subst c7
     have H1 : (ag_.j1 kj1 a0 0) = some (r1, r2) := by rw [if_neg (show ¬ (false = true) by decide)] at H; exact H
     clear H
     have H := H1
     clear H1
     have H' := Aside0.mk H
     clear H
     go_wp2
     go_meet
     case rel => exact ⟨_, (0), (by first | rfl | (simp; done) | (simp [*]; done)), H', ⟨by have := HJ1.out; first | omega | exact Nat.le_refl _⟩, by repeat (first | exact ah_.refl _ | apply ah_.step)⟩
    subst c7
    have H1 : (ag_.j1 kj1 a0 1) = some (r1, r2) := by rw [if_pos rfl] at H; exact H
    clear H
    have H := H1
    clear H1
    have H' := Aside0.mk H
    clear H
    go_wp2
    go_meet
    case rel => exact ⟨_, (1), (by first | rfl | (simp; done) | (simp [*]; done)), H', ⟨by have := HJ1.out; first | omega | exact Nat.le_refl _⟩, by repeat (first | exact ah_.refl _ | apply ah_.step)⟩
   case rest =>
    clear HC6
    obtain ⟨kq, x4_5, rfl, HA, HJ5, ⟨mc5, rfl⟩⟩ := hcut
    cases kq with
    | zero => exact absurd HA.out (by simp [ag_.j1])
    | succ kj5 =>
     have H := HA.out
     clear HA
     simp only [ag_.j1] at H
     have HC8 := Aside0.mk H
     clear H
     go_upto_region 4 with (fail)
     go_cut [36] (fun v36 wc => ∃ (kq : Nat) (x36_7 : Bool), v36 = .bool x36_7 ∧ Aside0 (ag_.j2 kq a0 x4_5 x36_7 = some (r1, r2)) ∧ Aside0 (kq ≤ kj5) ∧ ah_ w wc)
     case first =>
      have H := HC8.out
      clear HC8
      by_cases c9 : (a0.size : Int) = x4_5
      rotate_left
      ·rw [if_neg c9] at H
       have c9b0 : ((a0.size : Int) == x4_5) = false := beq_eq_false_iff_ne.mpr c9
       have c9b1 : ((a0.size : Int) != x4_5) = true := bne_iff_ne.mpr c9
       (first | rw [c9b0] | (simp only [i64_w, i32_w]; rw [c9b0]) | (simp only [c9b1, Bool.not_true, Bool.not_false]) | (simp only [c9b0, Bool.not_true, Bool.not_false]) | skip)
       by_cases c10 : (wrap64 ((a0.size : Int) - x4_5)) > 18
       rotate_left
       ·rw [if_neg c10] at H
        have c10b0 : decide (18 < (wrap64 ((a0.size : Int) - x4_5))) = false := decide_eq_false c10
        clear c10
        by_cases c11 : 0 ≤ x4_5
        rotate_left
        ·rw [if_neg c11] at H
         exact absurd H (by simp)
        rw [if_pos c11] at H
        have c11b0 : decide (0 ≤ x4_5) = true := decide_eq_true c11
        clear c11
        by_cases c12 : x4_5 < (a0.size : Int)
        rotate_left
        ·rw [if_neg c12] at H
         exact absurd H (by simp)
        rw [if_pos c12] at H
        have c12b0 : decide (x4_5 < (a0.size : Int)) = true := decide_eq_true c12
        clear c12
        by_cases c14 : (bt a0 x4_5) = 48
        rotate_left
        ·rw [if_neg c14] at H
         have c14b0 : ((bt a0 x4_5) == 48) = false := beq_eq_false_iff_ne.mpr c14
         have c14b1 : ((bt a0 x4_5) != 48) = true := bne_iff_ne.mpr c14
         have H' := Aside0.mk H
         clear H
         have p13 : 0 ≤ (x4_5 : Int) := of_decide_eq_true (by assumption)
         have q13 : x4_5 < (a0.size : Int) := of_decide_eq_true (by assumption)
         have hx13 := bt_at a0 x4_5
         replace p13 := eq_true p13
         replace q13 := eq_true q13
         go_wp2
         go_meet
         case rel => exact ⟨_, (false), (by first | rfl | (simp; done) | (simp [*]; done)), H', ⟨by have := HJ1.out; have := HJ5.out; first | omega | exact Nat.le_refl _⟩, by repeat (first | exact ah_.refl _ | apply ah_.step)⟩
        rw [if_pos c14] at H
        have c14b0 : ((bt a0 x4_5) == 48) = true := beq_iff_eq.mpr c14
        have c14b1 : ((bt a0 x4_5) != 48) = false := bne_eq_false_iff_eq.mpr c14
        clear c14
        have H' := Aside0.mk H
        clear H
        have p13 : 0 ≤ (x4_5 : Int) := of_decide_eq_true (by assumption)
        have q13 : x4_5 < (a0.size : Int) := of_decide_eq_true (by assumption)
        have hx13 := bt_at a0 x4_5
        replace p13 := eq_true p13
        replace q13 := eq_true q13
        go_wp2
        go_meet
        case rel => exact ⟨_, (decide ((a0.size : Int) > 1)), (by first | rfl | (simp; done) | (simp [*]; done)), H', ⟨by have := HJ1.out; have := HJ5.out; first | omega | exact Nat.le_refl _⟩, by repeat (first | exact ah_.refl _ | apply ah_.step)⟩
       rw [if_pos c10] at H
       have c10b0 : decide (18 < (wrap64 ((a0.size : Int) - x4_5))) = true := decide_eq_true c10
       clear c10
       have H' := Aside0.mk H
       clear H
       go_wp2
       go_meet
       case rel => exact ⟨_, (true), (by first | rfl | (simp; done) | (simp [*]; done)), H', ⟨by have := HJ1.out; have := HJ5.out; first | omega | exact Nat.le_refl _⟩, by repeat (first | exact ah_.refl _ | apply ah_.step)⟩
      rw [if_pos c9] at H
      have c9b0 : ((a0.size : Int) == x4_5) = true := beq_iff_eq.mpr c9
      have c9b1 : ((a0.size : Int) != x4_5) = false := bne_eq_false_iff_eq.mpr c9
      clear c9
      (first | rw [c9b0] | (simp only [i64_w, i32_w]; rw [c9b0]) | (simp only [c9b1, Bool.not_true, Bool.not_false]) | (simp only [c9b0, Bool.not_true, Bool.not_false]) | skip)
      have H' := Aside0.mk H
      clear H
      go_wp2
      go_meet
      case rel => exact ⟨_, (true), (by first | rfl | (simp; done) | (simp [*]; done)), H', ⟨by have := HJ1.out; have := HJ5.out; first | omega | exact Nat.le_refl _⟩, by repeat (first | exact ah_.refl _ | apply ah_.step)⟩
     case rest =>
      clear HC8
      obtain ⟨kq, x36_7, rfl, HA, HJ7, ⟨mc7, rfl⟩⟩ := hcut
      cases kq with
      | zero => exact absurd HA.out (by simp [ag_.j2])
      | succ kj7 =>
       have H := HA.out
       clear HA
       simp only [ag_.j2] at H
       by_cases c15 : x36_7 = true
       rotate_left
       ·replace c15 := Bool.eq_false_iff.mpr c15
        subst c15
        have H1 : (ag_.l0 kj7 a0 x4_5 0 x4_5) = some (r1, r2) := by rw [if_neg (show ¬ (false = true) by decide)] at H; exact H
        clear H
        have H := H1
        clear H1
        have H' := Aside0.mk H
        clear H
        go_wp2
        (try simp only [Act.put, lsa_, ls0_, ls1_])
        go_loopg [5, 6] kj7 (fun kq v5 v6 w' => ∃ (x5_4 : Int) (x6_4 : Int), v5 = .int .i64 x5_4 ∧ v6 = .int .i64 x6_4 ∧ Aside0 (ag_.l0 kq a0 x4_5 x5_4 x6_4 = some (r1, r2)) ∧ Aside0 (kq ≤ kj7) ∧ ah_ w w')
        case atStart => exact ⟨(0), (x4_5), (by first | rfl | (simp; done) | (simp [*]; done)), (by first | rfl | (simp; done) | (simp [*]; done)), H', ⟨Nat.le_refl _⟩, by repeat (first | exact ah_.refl _ | apply ah_.step)⟩
        case round =>
         clear H'
         obtain ⟨x5_4, x6_4, rfl, rfl, HA, HK4, ⟨m4, rfl⟩⟩ := hrel
         cases gk with
         | zero => exact absurd HA.out (by simp [ag_.l0])
         | succ k4 =>
          have H := HA.out
          clear HA
          simp only [ag_.l0] at H
          by_cases c16 : x6_4 < (a0.size : Int)
          rotate_left
          ·rw [if_neg c16] at H
           have c16b0 : decide (x6_4 < (a0.size : Int)) = false := decide_eq_false c16
           clear c16
           by_cases c23 : x4_5 = 1
           rotate_left
           ·rw [if_neg c23] at H
            have c23b0 : (x4_5 == 1) = false := beq_eq_false_iff_ne.mpr c23
            have c23b1 : (x4_5 != 1) = true := bne_iff_ne.mpr c23
            simp only [Option.some.injEq, Prod.mk.injEq] at H
            obtain ⟨rfl, rfl⟩ := H
            go_wp2
            go_ret2
            exact ⟨by first | rfl | (simp; done) | (simp [*]; done), by repeat (first | exact ah_.refl _ | apply ah_.step)⟩
           rw [if_pos c23] at H
           have c23b0 : (x4_5 == 1) = true := beq_iff_eq.mpr c23
           have c23b1 : (x4_5 != 1) = false := bne_eq_false_iff_eq.mpr c23
           clear c23
           simp only [Option.some.injEq, Prod.mk.injEq] at H
           obtain ⟨rfl, rfl⟩ := H
           go_wp2
           go_ret2
           exact ⟨by first | rfl | (simp; done) | (simp [*]; done), by repeat (first | exact ah_.refl _ | apply ah_.step)⟩
          rw [if_pos c16] at H
          have c16b0 : decide (x6_4 < (a0.size : Int)) = true := decide_eq_true c16
          clear c16
          by_cases c17 : 0 ≤ x6_4
          rotate_left
          ·rw [if_neg c17] at H
           exact absurd H (by simp)
          rw [if_pos c17] at H
          have c17b0 : decide (0 ≤ x6_4) = true := decide_eq_true c17
          clear c17
          replace H := Option.bind_eq_some_iff.mp H
          obtain ⟨t101, A190, H⟩ := H
          (try dsimp only at H)
          have A19 := Aside0.mk A190
          clear A190
          have HC20 := Aside0.mk H
          clear H
          have p18 : 0 ≤ (x6_4 : Int) := of_decide_eq_true (by assumption)
          have q18 : x6_4 < (a0.size : Int) := of_decide_eq_true (by assumption)
          have hx18 := bt_at a0 x6_4
          replace p18 := eq_true p18
          replace q18 := eq_true q18
          go_upto_if 48 with (first | ((with_reducible refine as_ (f := 77) rfl ?_); refine aY_ (some 47) rfl rfl Tryd.func77 (by kernel_rfl) rfl #[.int .u8 (bt a0 x6_4)] rfl (by first | rfl | (simp only [List.map_toArray, List.map_cons, List.map_nil]; first | done | rfl)) ?_; (with_reducible refine (bh_.calls (bt a0 x6_4) t101 _ A19.out).mono ?_); rintro e w' ⟨rfl, ⟨nd, rfl⟩⟩; refine ⟨_, rfl, ?_⟩; skip))
          (try simp only [Act.put, lsa_, ls0_, ls1_])
          have H := HC20.out
          clear HC20
          by_cases c21 : t101 = true
          rotate_left
          ·replace c21 := Bool.eq_false_iff.mpr c21
           subst c21
           have H1 : (some (0, false)) = some (r1, r2) := by rw [if_neg (show ¬ (false = true) by decide)] at H; exact H
           clear H
           have H := H1
           clear H1
           simp only [Option.some.injEq, Prod.mk.injEq] at H
           obtain ⟨rfl, rfl⟩ := H
           go_wp2
           go_ret2
           exact ⟨by first | rfl | (simp; done) | (simp [*]; done), by repeat (first | exact ah_.refl _ | apply ah_.step)⟩
          subst c21
          have H1 : (ag_.l0 k4 a0 x4_5 (wrap64 ((wrap64 (10 * x5_4)) + (((bt a0 x6_4) - 48) % 256))) (wrap64 (x6_4 + 1))) = some (r1, r2) := by rw [if_pos rfl] at H; exact H
          clear H
          have H := H1
          clear H1
          have H' := Aside0.mk H
          clear H
          have p22 : 0 ≤ (x6_4 : Int) := of_decide_eq_true (by assumption)
          have q22 : x6_4 < (a0.size : Int) := of_decide_eq_true (by assumption)
          have hx22 := bt_at a0 x6_4
          replace p22 := eq_true p22
          replace q22 := eq_true q22
          go_wp2
          go_roundg k4
          case measure => have := HJ1.out; have := HJ5.out; have := HJ7.out; have := HK4.out; omega
          case rel => exact ⟨(wrap64 ((wrap64 (10 * x5_4)) + (((bt a0 x6_4) - 48) % 256))), (wrap64 (x6_4 + 1)), (by first | rfl | (simp; done) | (simp [*]; done)), (by first | rfl | (simp; done) | (simp [*]; done)), H', ⟨by have := HJ1.out; have := HJ5.out; have := HJ7.out; have := HK4.out; omega⟩, by repeat (first | exact ah_.refl _ | apply ah_.step)⟩
       subst c15
       have H1 : (some (0, false)) = some (r1, r2) := by rw [if_pos rfl] at H; exact H
       clear H
       have H := H1
       clear H1
       simp only [Option.some.injEq, Prod.mk.injEq] at H
       obtain ⟨rfl, rfl⟩ := H
       go_wp2
       go_ret2
       exact ⟨by first | rfl | (simp; done) | (simp [*]; done), by repeat (first | exact ah_.refl _ | apply ah_.step)⟩
def bz_.f (a0 : Int) (a1 : Int) (a2 : Int) : Option (Bool) := if a0 ≥ a1 then (some (decide (a0 ≤ a2))) else (some false)
set_option maxHeartbeats 8000000 in
set_option maxRecDepth 100000 in
theorem bz_.calls (a0 : Int) (a1 : Int) (a2 : Int) (r : Bool) (w : World) (h : bz_.f a0 a1 a2 = some r) :
  Calls Tryd.prog 55 #[.int .i64 a0, .int .i64 a1, .int .i64 a2] w fun e w' => e = .returned (.bool r) ∧ ah_ w w' := by
 have H : (if a0 ≥ a1 then (some (decide (a0 ≤ a2))) else (some false)) = some r := h
 clear h
 by_cases c4 : a0 ≥ a1
 rotate_left
 ·rw [if_neg c4] at H
  have c4b0 : decide (a1 ≤ a0) = false := decide_eq_false c4
  clear c4
  obtain rfl := Option.some.inj H
  go_enter Tryd.func55, Tryd.ntmps55
  go_wp2
  go_ret
  exact ⟨by first | rfl | (simp; done) | (simp [*]; done), by repeat (first | exact ah_.refl _ | apply ah_.step)⟩
 rw [if_pos c4] at H
 have c4b0 : decide (a1 ≤ a0) = true := decide_eq_true c4
 clear c4
 obtain rfl := Option.some.inj H
 go_enter Tryd.func55, Tryd.ntmps55
 go_wp2
 go_ret
 exact ⟨by first | rfl | (simp; done) | (simp [*]; done), by repeat (first | exact ah_.refl _ | apply ah_.step)⟩
def aR_.j0 : Nat → List ByteArray → Bool → Option (Int × Bool)
 | 0, _, _ => none
 | k + 1, x4, x17 => if x17 = true then (some (0, false)) else (if 1 < (x4.length : Int) then ((ag_.f k (rdOf ByteArray.empty x4 1)).bind fun bt106 => (if bt106.2 = true then ((bz_.f bt106.1 0 32).bind fun t108 => (some (bt106.1, t108))) else (some (bt106.1, false)))) else (none))
def aR_.f (k : Nat) (a0 : ByteArray) : Option (Int × Bool) := (aC_.f k a0 32).bind fun t101 => (if (t101.length : Int) = 2 then (if 0 < (t101.length : Int) then (aR_.j0 k t101 ((rdOf ByteArray.empty t101 0).toList != ([97, 114, 99, 104, 105, 118, 101] : List UInt8))) else (none)) else (aR_.j0 k t101 true))
set_option maxHeartbeats 8000000 in
set_option maxRecDepth 100000 in
theorem aR_.calls (k : Nat) (a0 : ByteArray) (r1 : Int) (r2 : Bool) (w : World) (h : aR_.f k a0 = some (r1, r2)) :
  Calls Tryd.prog 30 #[.string a0] w fun e w' => e = .returned (.tuple #[.int .i64 r1, .bool r2]) ∧ Below w.heap.size w w' := by
 have HB := Aside0.mk (Below.refl w.heap.size w)
 have H : ((aC_.f k a0 32).bind fun t101 => (if (t101.length : Int) = 2 then (if 0 < (t101.length : Int) then (aR_.j0 k t101 ((rdOf ByteArray.empty t101 0).toList != ([97, 114, 99, 104, 105, 118, 101] : List UInt8))) else (none)) else (aR_.j0 k t101 true))) = some (r1, r2) := h
 clear h
 replace H := Option.bind_eq_some_iff.mp H
 obtain ⟨t101, A20, H⟩ := H
 (try dsimp only at H)
 have A2 := Aside0.mk A20
 clear A20
 have HC3 := Aside0.mk H
 clear H
 go_enter Tryd.func30, Tryd.ntmps30
 go_upto_region 2 with (first | ((with_reducible refine as_ (f := 46) rfl ?_); refine aY_ (some 8) rfl rfl Tryd.func46 (by kernel_rfl) rfl #[.string a0, .int .u8 32] rfl (by first | rfl | (simp only [List.map_toArray, List.map_cons, List.map_nil]; first | done | rfl)) ?_; (with_reducible refine (aC_.calls k a0 32 t101 _ A2.out).mono ?_); rintro e w4 ⟨v102, rfl, ho0, hb⟩; refine ⟨_, rfl, ?_⟩; have HO103 := Aside0.mk (Kd.bw_ ho0 (aw_ (bz HB.out))); replace HB := Aside0.mk (au_ (bz HB.out) hb); (try clear hb); (try clear ho0)))
 (try simp only [Act.put, lsa_, ls0_, ls1_])
 go_cut [17] (fun v17 wc => ∃ (kq : Nat) (x17_2 : Bool), v17 = .bool x17_2 ∧ Aside0 (aR_.j0 kq t101 x17_2 = some (r1, r2)) ∧ Aside0 (kq ≤ k) ∧ Aside0 (Kd.R Kd.string 9 wc w.heap.size (fun _ => True) v102 t101) ∧ Aside0 (Below w.heap.size w wc))
 case first =>
  have H := HC3.out
  clear HC3
  by_cases c5 : (t101.length : Int) = 2
  rotate_left
  ·rw [if_neg c5] at H
   have c5b0 : ((t101.length : Int) == 2) = false := beq_eq_false_iff_ne.mpr c5
   have c5b1 : ((t101.length : Int) != 2) = true := bne_iff_ne.mpr c5
   (first | rw [c5b0] | (simp only [i64_w, i32_w]; rw [c5b0]) | (simp only [c5b1, Bool.not_true, Bool.not_false]) | (simp only [c5b0, Bool.not_true, Bool.not_false]) | skip)
   have H' := Aside0.mk H
   clear H
   obtain ⟨Ao8, co8, eo8⟩ := Kd.bc_ HO103.out
   subst eo8
   go_wp2
   go_meet
   case rel => exact ⟨_, (true), (by first | rfl | (simp; done) | (simp [*]; done)), H', ⟨by first | omega | exact Nat.le_refl _⟩, ⟨rz HO103.out⟩, ⟨bz HB.out⟩⟩
  rw [if_pos c5] at H
  have c5b0 : ((t101.length : Int) == 2) = true := beq_iff_eq.mpr c5
  have c5b1 : ((t101.length : Int) != 2) = false := bne_eq_false_iff_eq.mpr c5
  clear c5
  (first | rw [c5b0] | (simp only [i64_w, i32_w]; rw [c5b0]) | (simp only [c5b1, Bool.not_true, Bool.not_false]) | (simp only [c5b0, Bool.not_true, Bool.not_false]) | skip)
  by_cases c6 : 0 < (t101.length : Int)
  rotate_left
  ·rw [if_neg c6] at H
   exact absurd H (by simp)
  rw [if_pos c6] at H
  have c6b0 : decide (0 < (t101.length : Int)) = true := decide_eq_true c6
  have c6b1 : decide (0 < t101.length) = true := decide_eq_true (by omega)
  clear c6
  have H' := Aside0.mk H
  clear H
  obtain ⟨Ao7, co7, eo7⟩ := Kd.bc_ HO103.out
  subst eo7
  have p104 : 0 ≤ (0 : Int) := (by omega)
  have q104 : 0 < (t101.length : Int) := of_decide_eq_true (by assumption)
  obtain ⟨ad104, e104, hx104_0⟩ := Kd.bp_ (Kd.ay_ HO103.out).2.2 0 p104 q104
  cases e104
  have qi104 : (0 < t101.length) = True := eq_true (by omega)
  (try rw [show ((0 : Int)).toNat = 0 from rfl] at hx104_0)
  (try rw [Addr.add_zero'] at hx104_0)
  replace p104 := eq_true p104
  replace q104 := eq_true q104
  go_wp2
  go_meet
  case rel => exact ⟨_, (((rdOf ByteArray.empty t101 0).toList != ([97, 114, 99, 104, 105, 118, 101] : List UInt8))), (by first | rfl | (simp; done) | (simp [*]; done)), H', ⟨by first | omega | exact Nat.le_refl _⟩, ⟨rz HO103.out⟩, ⟨bz HB.out⟩⟩
 case rest =>
  clear HC3
  obtain ⟨kq, x17_2, rfl, HA, HJ2, HO_4, HB⟩ := hcut
  cases kq with
  | zero => exact absurd HA.out (by simp [aR_.j0])
  | succ kj2 =>
   have H := HA.out
   clear HA
   simp only [aR_.j0] at H
   by_cases c9 : x17_2 = true
   rotate_left
   ·replace c9 := Bool.eq_false_iff.mpr c9
    subst c9
    have H1 : (if 1 < (t101.length : Int) then ((ag_.f kj2 (rdOf ByteArray.empty t101 1)).bind fun bt106 => (if bt106.2 = true then ((bz_.f bt106.1 0 32).bind fun t108 => (some (bt106.1, t108))) else (some (bt106.1, false)))) else (none)) = some (r1, r2) := by rw [if_neg (show ¬ (false = true) by decide)] at H; exact H
    clear H
    have H := H1
    clear H1
    by_cases c10 : 1 < (t101.length : Int)
    rotate_left
    ·rw [if_neg c10] at H
     exact absurd H (by simp)
    rw [if_pos c10] at H
    have c10b0 : decide (1 < (t101.length : Int)) = true := decide_eq_true c10
    have c10b1 : decide (1 < t101.length) = true := decide_eq_true (by omega)
    clear c10
    replace H := Option.bind_eq_some_iff.mp H
    obtain ⟨⟨t106, t107⟩, A110, H⟩ := H
    (try dsimp only at H)
    have A11 := Aside0.mk A110
    clear A110
    by_cases c12 : t107 = true
    rotate_left
    ·replace c12 := Bool.eq_false_iff.mpr c12
     subst c12
     have H1 : (some (t106, false)) = some (r1, r2) := by rw [if_neg (show ¬ (false = true) by decide)] at H; exact H
     clear H
     have H := H1
     clear H1
     simp only [Option.some.injEq, Prod.mk.injEq] at H
     obtain ⟨rfl, rfl⟩ := H
     obtain ⟨Ao15, co15, eo15⟩ := Kd.bc_ HO_4.out
     subst eo15
     have p105 : 0 ≤ (1 : Int) := (by omega)
     have q105 : 1 < (t101.length : Int) := of_decide_eq_true (by assumption)
     obtain ⟨ad105, e105, hx105_0⟩ := Kd.bp_ (Kd.ay_ HO_4.out).2.2 1 p105 q105
     cases e105
     (try simp only [show (1 : Int).toNat = 1 from rfl, Nat.reduceMul, Nat.reduceEqDiff, Go.Addr.add, ↓reduceIte] at hx105_0)
     have qi105 : (1 < t101.length) = True := eq_true (by omega)
     (try rw [show ((1 : Int)).toNat = 1 from rfl] at hx105_0)
     replace p105 := eq_true p105
     replace q105 := eq_true q105
     go_wp2_with (first | ((with_reducible refine as_ (f := 54) rfl ?_); refine aY_ (some 22) rfl rfl Tryd.func54 (by kernel_rfl) rfl #[.string (rdOf ByteArray.empty t101 1)] rfl (by first | rfl | (simp only [List.map_toArray, List.map_cons, List.map_nil]; first | done | rfl)) ?_; (with_reducible refine (ag_.calls kj2 (rdOf ByteArray.empty t101 1) t106 false _ A11.out).mono ?_); rintro e w' ⟨rfl, ⟨nd, rfl⟩⟩; refine ⟨_, rfl, ?_⟩))
     go_ret2
     exact ⟨by first | rfl | (simp [*, ap_, aq_] <;> rfl), bz HB.out⟩
    subst c12
    have H1 : ((bz_.f t106 0 32).bind fun t108 => (some (t106, t108))) = some (r1, r2) := by rw [if_pos rfl] at H; exact H
    clear H
    have H := H1
    clear H1
    replace H := Option.bind_eq_some_iff.mp H
    obtain ⟨t108, A130, H⟩ := H
    (try dsimp only at H)
    have A13 := Aside0.mk A130
    clear A130
    simp only [Option.some.injEq, Prod.mk.injEq] at H
    obtain ⟨rfl, rfl⟩ := H
    obtain ⟨Ao14, co14, eo14⟩ := Kd.bc_ HO_4.out
    subst eo14
    have p105 : 0 ≤ (1 : Int) := (by omega)
    have q105 : 1 < (t101.length : Int) := of_decide_eq_true (by assumption)
    obtain ⟨ad105, e105, hx105_0⟩ := Kd.bp_ (Kd.ay_ HO_4.out).2.2 1 p105 q105
    cases e105
    (try simp only [show (1 : Int).toNat = 1 from rfl, Nat.reduceMul, Nat.reduceEqDiff, Go.Addr.add, ↓reduceIte] at hx105_0)
    have qi105 : (1 < t101.length) = True := eq_true (by omega)
    (try rw [show ((1 : Int)).toNat = 1 from rfl] at hx105_0)
    replace p105 := eq_true p105
    replace q105 := eq_true q105
    go_wp2_with (first | ((with_reducible refine as_ (f := 54) rfl ?_); refine aY_ (some 22) rfl rfl Tryd.func54 (by kernel_rfl) rfl #[.string (rdOf ByteArray.empty t101 1)] rfl (by first | rfl | (simp only [List.map_toArray, List.map_cons, List.map_nil]; first | done | rfl)) ?_; (with_reducible refine (ag_.calls kj2 (rdOf ByteArray.empty t101 1) t106 true _ A11.out).mono ?_); rintro e w' ⟨rfl, ⟨nd, rfl⟩⟩; refine ⟨_, rfl, ?_⟩) | (go_at_call 55; (with_reducible refine (bz_.calls t106 0 32 t108 _ A13.out).mono ?_); rintro e w' ⟨rfl, ⟨nd, rfl⟩⟩))
    go_ret2
    exact ⟨by first | rfl | (simp [*, ap_, aq_] <;> rfl), bz HB.out⟩
   subst c9
   have H1 : (some (0, false)) = some (r1, r2) := by rw [if_pos rfl] at H; exact H
   clear H
   have H := H1
   clear H1
   simp only [Option.some.injEq, Prod.mk.injEq] at H
   obtain ⟨rfl, rfl⟩ := H
   go_wp2
   go_ret2
   exact ⟨by first | rfl | (simp [*, ap_, aq_] <;> rfl), bz HB.out⟩
def bm_.f (l0 : List (S43)) (l1 : List (S43)) : Option (Bool) := if 0 < (l0.length : Int) then (if 0 < (l1.length : Int) then (if (Op.bytesLess (((aj_ l0 0).f0).toList) (((aj_ l1 0).f0).toList)) = true then (some true) else (if ((aj_ l0 0).f0).toList = ((aj_ l1 0).f0).toList then (some (Op.bytesLess (((aj_ l0 0).f1).toList) (((aj_ l1 0).f1).toList))) else (some false))) else (none)) else (none)
set_option maxHeartbeats 8000000 in
set_option maxRecDepth 100000 in
theorem bm_.calls (A0 : Option Addr) (l0 : List (S43)) (A1 : Option Addr) (l1 : List (S43)) (r : Bool) (w : World) (hr0 : Kd.C k43 w A0 l0.length l0) (hr1 : Kd.C k43 w A1 l1.length l1) (h : bm_.f l0 l1 = some r) :
  Calls Tryd.prog 31 #[.pointer A0, .pointer A1] w fun e w' => e = .returned (.bool r) ∧ ah_ w w' := by
 have HR0 := Aside0.mk hr0
 clear hr0
 have HR1 := Aside0.mk hr1
 clear hr1
 have H : (if 0 < (l0.length : Int) then (if 0 < (l1.length : Int) then (if (Op.bytesLess (((aj_ l0 0).f0).toList) (((aj_ l1 0).f0).toList)) = true then (some true) else (if ((aj_ l0 0).f0).toList = ((aj_ l1 0).f0).toList then (some (Op.bytesLess (((aj_ l0 0).f1).toList) (((aj_ l1 0).f1).toList))) else (some false))) else (none)) else (none)) = some r := h
 clear h
 by_cases c3 : 0 < (l0.length : Int)
 rotate_left
 ·rw [if_neg c3] at H
  exact absurd H (by simp)
 rw [if_pos c3] at H
 have c3b0 : decide (0 < (l0.length : Int)) = true := decide_eq_true c3
 have c3b1 : decide (0 < l0.length) = true := decide_eq_true (by omega)
 clear c3
 by_cases c4 : 0 < (l1.length : Int)
 rotate_left
 ·rw [if_neg c4] at H
  exact absurd H (by simp)
 rw [if_pos c4] at H
 have c4b0 : decide (0 < (l1.length : Int)) = true := decide_eq_true c4
 have c4b1 : decide (0 < l1.length) = true := decide_eq_true (by omega)
 clear c4
 by_cases c5 : (Op.bytesLess (((aj_ l0 0).f0).toList) (((aj_ l1 0).f0).toList)) = true
 rotate_left
 ·rw [if_neg c5] at H
  have c5b0 : (Op.bytesLess (((aj_ l0 0).f0).toList) (((aj_ l1 0).f0).toList)) = false := by simpa using c5
  clear c5
  by_cases c6 : ((aj_ l0 0).f0).toList = ((aj_ l1 0).f0).toList
  rotate_left
  ·rw [if_neg c6] at H
   have c6b0 : (((aj_ l0 0).f0).toList == ((aj_ l1 0).f0).toList) = false := beq_eq_false_iff_ne.mpr c6
   have c6b1 : (((aj_ l0 0).f0).toList != ((aj_ l1 0).f0).toList) = true := bne_iff_ne.mpr c6
   obtain rfl := Option.some.inj H
   have p101 : 0 ≤ (0 : Int) := (by omega)
   have q101 : 0 < (l0.length : Int) := of_decide_eq_true (by assumption)
   obtain ⟨ad101, e101, hx101_0, hx101_1, hx101_2⟩ := bk_ HR0.out 0 p101 q101
   cases e101
   have qi101 : (0 < l0.length) = True := eq_true (by omega)
   (try simp only [show ((0 : Int)).toNat = 0 from rfl, show 0 * 3 = 0 from rfl, Addr.add_zero'] at hx101_0)
   (try simp only [show ((0 : Int)).toNat = 0 from rfl, show 0 * 3 = 0 from rfl, Addr.add_zero'] at hx101_1)
   (try simp only [show ((0 : Int)).toNat = 0 from rfl, show 0 * 3 = 0 from rfl, Addr.add_zero'] at hx101_2)
   replace p101 := eq_true p101
   replace q101 := eq_true q101
   have p102 : 0 ≤ (0 : Int) := (by omega)
   have q102 : 0 < (l1.length : Int) := of_decide_eq_true (by assumption)
   obtain ⟨ad102, e102, hx102_0, hx102_1, hx102_2⟩ := bk_ HR1.out 0 p102 q102
   cases e102
   have qi102 : (0 < l1.length) = True := eq_true (by omega)
   (try simp only [show ((0 : Int)).toNat = 0 from rfl, show 0 * 3 = 0 from rfl, Addr.add_zero'] at hx102_0)
   (try simp only [show ((0 : Int)).toNat = 0 from rfl, show 0 * 3 = 0 from rfl, Addr.add_zero'] at hx102_1)
   (try simp only [show ((0 : Int)).toNat = 0 from rfl, show 0 * 3 = 0 from rfl, Addr.add_zero'] at hx102_2)
   replace p102 := eq_true p102
   replace q102 := eq_true q102
   have p103 : 0 ≤ (0 : Int) := (by omega)
   have q103 : 0 < (l0.length : Int) := of_decide_eq_true (by assumption)
   obtain ⟨ad103, e103, hx103_0, hx103_1, hx103_2⟩ := bk_ HR0.out 0 p103 q103
   obtain rfl : ad101 = ad103 := (by injection e103)
   have qi103 : (0 < l0.length) = True := eq_true (by omega)
   (try simp only [show ((0 : Int)).toNat = 0 from rfl, show 0 * 3 = 0 from rfl, Addr.add_zero'] at hx103_0)
   (try simp only [show ((0 : Int)).toNat = 0 from rfl, show 0 * 3 = 0 from rfl, Addr.add_zero'] at hx103_1)
   (try simp only [show ((0 : Int)).toNat = 0 from rfl, show 0 * 3 = 0 from rfl, Addr.add_zero'] at hx103_2)
   replace p103 := eq_true p103
   replace q103 := eq_true q103
   have p104 : 0 ≤ (0 : Int) := (by omega)
   have q104 : 0 < (l1.length : Int) := of_decide_eq_true (by assumption)
   obtain ⟨ad104, e104, hx104_0, hx104_1, hx104_2⟩ := bk_ HR1.out 0 p104 q104
   obtain rfl : ad102 = ad104 := (by injection e104)
   have qi104 : (0 < l1.length) = True := eq_true (by omega)
   (try simp only [show ((0 : Int)).toNat = 0 from rfl, show 0 * 3 = 0 from rfl, Addr.add_zero'] at hx104_0)
   (try simp only [show ((0 : Int)).toNat = 0 from rfl, show 0 * 3 = 0 from rfl, Addr.add_zero'] at hx104_1)
   (try simp only [show ((0 : Int)).toNat = 0 from rfl, show 0 * 3 = 0 from rfl, Addr.add_zero'] at hx104_2)
   replace p104 := eq_true p104
   replace q104 := eq_true q104
   go_enter Tryd.func31, Tryd.ntmps31
   go_wp2
   repeat (go_quiet (fail); try go_wp2)
   go_ret
   exact ⟨by first | rfl | (simp; done) | (simp [*]; done), by repeat (first | exact ah_.refl _ | apply ah_.step)⟩
  rw [if_pos c6] at H
  have c6b0 : (((aj_ l0 0).f0).toList == ((aj_ l1 0).f0).toList) = true := beq_iff_eq.mpr c6
  have c6b1 : (((aj_ l0 0).f0).toList != ((aj_ l1 0).f0).toList) = false := bne_eq_false_iff_eq.mpr c6
  clear c6
  obtain rfl := Option.some.inj H
  have p101 : 0 ≤ (0 : Int) := (by omega)
  have q101 : 0 < (l0.length : Int) := of_decide_eq_true (by assumption)
  obtain ⟨ad101, e101, hx101_0, hx101_1, hx101_2⟩ := bk_ HR0.out 0 p101 q101
  cases e101
  have qi101 : (0 < l0.length) = True := eq_true (by omega)
  (try simp only [show ((0 : Int)).toNat = 0 from rfl, show 0 * 3 = 0 from rfl, Addr.add_zero'] at hx101_0)
  (try simp only [show ((0 : Int)).toNat = 0 from rfl, show 0 * 3 = 0 from rfl, Addr.add_zero'] at hx101_1)
  (try simp only [show ((0 : Int)).toNat = 0 from rfl, show 0 * 3 = 0 from rfl, Addr.add_zero'] at hx101_2)
  replace p101 := eq_true p101
  replace q101 := eq_true q101
  have p102 : 0 ≤ (0 : Int) := (by omega)
  have q102 : 0 < (l1.length : Int) := of_decide_eq_true (by assumption)
  obtain ⟨ad102, e102, hx102_0, hx102_1, hx102_2⟩ := bk_ HR1.out 0 p102 q102
  cases e102
  have qi102 : (0 < l1.length) = True := eq_true (by omega)
  (try simp only [show ((0 : Int)).toNat = 0 from rfl, show 0 * 3 = 0 from rfl, Addr.add_zero'] at hx102_0)
  (try simp only [show ((0 : Int)).toNat = 0 from rfl, show 0 * 3 = 0 from rfl, Addr.add_zero'] at hx102_1)
  (try simp only [show ((0 : Int)).toNat = 0 from rfl, show 0 * 3 = 0 from rfl, Addr.add_zero'] at hx102_2)
  replace p102 := eq_true p102
  replace q102 := eq_true q102
  have p103 : 0 ≤ (0 : Int) := (by omega)
  have q103 : 0 < (l0.length : Int) := of_decide_eq_true (by assumption)
  obtain ⟨ad103, e103, hx103_0, hx103_1, hx103_2⟩ := bk_ HR0.out 0 p103 q103
  obtain rfl : ad101 = ad103 := (by injection e103)
  have qi103 : (0 < l0.length) = True := eq_true (by omega)
  (try simp only [show ((0 : Int)).toNat = 0 from rfl, show 0 * 3 = 0 from rfl, Addr.add_zero'] at hx103_0)
  (try simp only [show ((0 : Int)).toNat = 0 from rfl, show 0 * 3 = 0 from rfl, Addr.add_zero'] at hx103_1)
  (try simp only [show ((0 : Int)).toNat = 0 from rfl, show 0 * 3 = 0 from rfl, Addr.add_zero'] at hx103_2)
  replace p103 := eq_true p103
  replace q103 := eq_true q103
  have p104 : 0 ≤ (0 : Int) := (by omega)
  have q104 : 0 < (l1.length : Int) := of_decide_eq_true (by assumption)
  obtain ⟨ad104, e104, hx104_0, hx104_1, hx104_2⟩ := bk_ HR1.out 0 p104 q104
  obtain rfl : ad102 = ad104 := (by injection e104)
  have qi104 : (0 < l1.length) = True := eq_true (by omega)
  (try simp only [show ((0 : Int)).toNat = 0 from rfl, show 0 * 3 = 0 from rfl, Addr.add_zero'] at hx104_0)
  (try simp only [show ((0 : Int)).toNat = 0 from rfl, show 0 * 3 = 0 from rfl, Addr.add_zero'] at hx104_1)
  (try simp only [show ((0 : Int)).toNat = 0 from rfl, show 0 * 3 = 0 from rfl, Addr.add_zero'] at hx104_2)
  replace p104 := eq_true p104
  replace q104 := eq_true q104
  have p105 : 0 ≤ (0 : Int) := (by omega)
  have q105 : 0 < (l0.length : Int) := of_decide_eq_true (by assumption)
  obtain ⟨ad105, e105, hx105_0, hx105_1, hx105_2⟩ := bk_ HR0.out 0 p105 q105
  obtain rfl : ad101 = ad105 := (by injection e105)
  have qi105 : (0 < l0.length) = True := eq_true (by omega)
  (try simp only [show ((0 : Int)).toNat = 0 from rfl, show 0 * 3 = 0 from rfl, Addr.add_zero'] at hx105_0)
  (try simp only [show ((0 : Int)).toNat = 0 from rfl, show 0 * 3 = 0 from rfl, Addr.add_zero'] at hx105_1)
  (try simp only [show ((0 : Int)).toNat = 0 from rfl, show 0 * 3 = 0 from rfl, Addr.add_zero'] at hx105_2)
  replace p105 := eq_true p105
  replace q105 := eq_true q105
  have p106 : 0 ≤ (0 : Int) := (by omega)
  have q106 : 0 < (l1.length : Int) := of_decide_eq_true (by assumption)
  obtain ⟨ad106, e106, hx106_0, hx106_1, hx106_2⟩ := bk_ HR1.out 0 p106 q106
  obtain rfl : ad102 = ad106 := (by injection e106)
  have qi106 : (0 < l1.length) = True := eq_true (by omega)
  (try simp only [show ((0 : Int)).toNat = 0 from rfl, show 0 * 3 = 0 from rfl, Addr.add_zero'] at hx106_0)
  (try simp only [show ((0 : Int)).toNat = 0 from rfl, show 0 * 3 = 0 from rfl, Addr.add_zero'] at hx106_1)
  (try simp only [show ((0 : Int)).toNat = 0 from rfl, show 0 * 3 = 0 from rfl, Addr.add_zero'] at hx106_2)
  replace p106 := eq_true p106
  replace q106 := eq_true q106
  go_enter Tryd.func31, Tryd.ntmps31
  go_wp2
  repeat (go_quiet (fail); try go_wp2)
  go_ret
  exact ⟨by first | rfl | (simp; done) | (simp [*]; done), by repeat (first | exact ah_.refl _ | apply ah_.step)⟩
 rw [if_pos c5] at H
 have c5b0 : (Op.bytesLess (((aj_ l0 0).f0).toList) (((aj_ l1 0).f0).toList)) = true := c5
 clear c5
 obtain rfl := Option.some.inj H
 have p101 : 0 ≤ (0 : Int) := (by omega)
 have q101 : 0 < (l0.length : Int) := of_decide_eq_true (by assumption)
 obtain ⟨ad101, e101, hx101_0, hx101_1, hx101_2⟩ := bk_ HR0.out 0 p101 q101
 cases e101
 have qi101 : (0 < l0.length) = True := eq_true (by omega)
 (try simp only [show ((0 : Int)).toNat = 0 from rfl, show 0 * 3 = 0 from rfl, Addr.add_zero'] at hx101_0)
 (try simp only [show ((0 : Int)).toNat = 0 from rfl, show 0 * 3 = 0 from rfl, Addr.add_zero'] at hx101_1)
 (try simp only [show ((0 : Int)).toNat = 0 from rfl, show 0 * 3 = 0 from rfl, Addr.add_zero'] at hx101_2)
 replace p101 := eq_true p101
 replace q101 := eq_true q101
 have p102 : 0 ≤ (0 : Int) := (by omega)
 have q102 : 0 < (l1.length : Int) := of_decide_eq_true (by assumption)
 obtain ⟨ad102, e102, hx102_0, hx102_1, hx102_2⟩ := bk_ HR1.out 0 p102 q102
 cases e102
 have qi102 : (0 < l1.length) = True := eq_true (by omega)
 (try simp only [show ((0 : Int)).toNat = 0 from rfl, show 0 * 3 = 0 from rfl, Addr.add_zero'] at hx102_0)
 (try simp only [show ((0 : Int)).toNat = 0 from rfl, show 0 * 3 = 0 from rfl, Addr.add_zero'] at hx102_1)
 (try simp only [show ((0 : Int)).toNat = 0 from rfl, show 0 * 3 = 0 from rfl, Addr.add_zero'] at hx102_2)
 replace p102 := eq_true p102
 replace q102 := eq_true q102
 go_enter Tryd.func31, Tryd.ntmps31
 go_wp2
 repeat (go_quiet (fail); try go_wp2)
 go_ret
 exact ⟨by first | rfl | (simp; done) | (simp [*]; done), by repeat (first | exact ah_.refl _ | apply ah_.step)⟩
mutual
def an_.j0 : Nat → List ByteArray → Bool → Option ((List (S43)) × Int × Int)
 | 0, _, _ => none
 | k + 1, x5, x24 => if x24 = true then (some (([] : List (S43)), 0, 11)) else (if 0 < (x5.length : Int) then ((aR_.f k (rdOf ByteArray.empty x5 0)).bind fun bt106 => (if bt106.2 = true then (an_.l0 k x5 bt106.1 (([] : List (S43))) 1) else (some (([] : List (S43)), 1, 9)))) else (none))
def an_.l0 : Nat → List ByteArray → Int → List (S43) → Int → Option ((List (S43)) × Int × Int)
 | 0, _, _, _, _ => none
 | k + 1, x5, x7, x9, x10 => if x10 < (x5.length : Int) then (if 0 ≤ x10 then ((ac_.f k (rdOf ByteArray.empty x5 x10)).bind fun bt112 => (if bt112.2.2.2 = 0 then (if (x9.length : Int) > 0 then (if 0 ≤ (wrap64 ((x9.length : Int) - 1)) then (if (wrap64 ((x9.length : Int) - 1)) < (x9.length : Int) then ((bm_.f [aj_ x9 (wrap64 ((x9.length : Int) - 1))] [(⟨bt112.1, bt112.2.1, bt112.2.2.1⟩ : S43)]).bind fun t118 => (if t118 = true then (if x9.length < 2932031007402 then (an_.l0 k x5 x7 (x9 ++ [(⟨bt112.1, bt112.2.1, bt112.2.2.1⟩ : S43)]) (wrap64 (x10 + 1))) else (none)) else (some (([] : List (S43)), wrap64 (x10 + 1), 7)))) else (none)) else (none)) else (if x9.length < 2932031007402 then (an_.l0 k x5 x7 (x9 ++ [(⟨bt112.1, bt112.2.1, bt112.2.2.1⟩ : S43)]) (wrap64 (x10 + 1))) else (none))) else (some (([] : List (S43)), wrap64 (x10 + 1), bt112.2.2.2)))) else (none)) else (if (x9.length : Int) = x7 then (some (x9, 0, 0)) else (some (([] : List (S43)), 0, 11)))
end
def an_.f (k : Nat) (a0 : ByteArray) : Option ((List (S43)) × Int × Int) := (br_.f k a0).bind fun bt101 => (if bt101.2 = true then (an_.j0 k bt101.1 ((bt101.1.length : Int) == 0)) else (an_.j0 k bt101.1 true))
set_option maxHeartbeats 8000000 in
set_option maxRecDepth 100000 in
theorem an_.calls (k : Nat) (a0 : ByteArray) (r1 : List (S43)) (r2 : Int) (r3 : Int) (w : World) (h : an_.f k a0 = some (r1, r2, r3)) :
  Calls Tryd.prog 12 #[.string a0] w fun e w' => ∃ v0_ : Value, e = .returned (.tuple #[v0_, .int .i64 r2, .int .i64 r3]) ∧ Kd.R k43 43 w' w.heap.size (fun _ => True) v0_ r1 ∧ Below w.heap.size w w' := by
 have hu43 := Tryd.underlying43
 have HB := Aside0.mk (Below.refl w.heap.size w)
 have H : ((br_.f k a0).bind fun bt101 => (if bt101.2 = true then (an_.j0 k bt101.1 ((bt101.1.length : Int) == 0)) else (an_.j0 k bt101.1 true))) = some (r1, r2, r3) := h
 clear h
 replace H := Option.bind_eq_some_iff.mp H
 obtain ⟨⟨t101, t102⟩, A20, H⟩ := H
 (try dsimp only at H)
 have A2 := Aside0.mk A20
 clear A20
 have HC3 := Aside0.mk H
 clear H
 go_enter Tryd.func12, Tryd.ntmps12
 go_upto_region 2 with (first | ((with_reducible refine as_ (f := 26) rfl ?_); refine aY_ (some 15) rfl rfl Tryd.func26 (by kernel_rfl) rfl #[.string a0] rfl (by first | rfl | (simp only [List.map_toArray, List.map_cons, List.map_nil]; first | done | rfl)) ?_; (with_reducible refine (br_.calls k a0 t101 t102 _ A2.out).mono ?_); rintro e w4 ⟨v103, rfl, ho0, hb⟩; refine ⟨_, rfl, ?_⟩; have HO104 := Aside0.mk (Kd.bw_ ho0 (aw_ (bz HB.out))); replace HB := Aside0.mk (au_ (bz HB.out) hb); (try clear hb); (try clear ho0)))
 (try simp only [Act.put, lsa_, ls0_, ls1_])
 go_cut [24] (fun v24 wc => ∃ (kq : Nat) (x24_2 : Bool), v24 = .bool x24_2 ∧ Aside0 (an_.j0 kq t101 x24_2 = some (r1, r2, r3)) ∧ Aside0 (kq ≤ k) ∧ Aside0 (Kd.R Kd.string 9 wc w.heap.size (fun _ => True) v103 t101) ∧ Aside0 (Below w.heap.size w wc))
 case first =>
  have H := HC3.out
  clear HC3
  by_cases c5 : t102 = true
  rotate_left
  ·replace c5 := Bool.eq_false_iff.mpr c5
   subst c5
   have H1 : (an_.j0 k t101 true) = some (r1, r2, r3) := by rw [if_neg (show ¬ (false = true) by decide)] at H; exact H
   clear H
   have H := H1
   clear H1
   have H' := Aside0.mk H
   clear H
   go_wp2
   go_meet
   case rel => exact ⟨_, (true), (by first | rfl | (simp; done) | (simp [*]; done)), H', ⟨by first | omega | exact Nat.le_refl _⟩, ⟨rz HO104.out⟩, ⟨bz HB.out⟩⟩
  subst c5
  have H1 : (an_.j0 k t101 ((t101.length : Int) == 0)) = some (r1, r2, r3) := by rw [if_pos rfl] at H; exact H
  clear H
  have H := H1
  clear H1
  have H' := Aside0.mk H
  clear H
  obtain ⟨Ao6, co6, eo6⟩ := Kd.bc_ HO104.out
  subst eo6
  go_wp2
  go_meet
  case rel => exact ⟨_, (((t101.length : Int) == 0)), (by first | rfl | (simp; done) | (simp [*]; done)), H', ⟨by first | omega | exact Nat.le_refl _⟩, ⟨rz HO104.out⟩, ⟨bz HB.out⟩⟩
 case rest =>
  clear HC3
  obtain ⟨kq, x24_2, rfl, HA, HJ2, HO_5, HB⟩ := hcut
  cases kq with
  | zero => exact absurd HA.out (by simp [an_.j0])
  | succ kj2 =>
   have H := HA.out
   clear HA
   simp only [an_.j0] at H
   by_cases c7 : x24_2 = true
   rotate_left
   ·replace c7 := Bool.eq_false_iff.mpr c7
    subst c7
    have H1 : (if 0 < (t101.length : Int) then ((aR_.f kj2 (rdOf ByteArray.empty t101 0)).bind fun bt106 => (if bt106.2 = true then (an_.l0 kj2 t101 bt106.1 (([] : List (S43))) 1) else (some (([] : List (S43)), 1, 9)))) else (none)) = some (r1, r2, r3) := by rw [if_neg (show ¬ (false = true) by decide)] at H; exact H
    clear H
    have H := H1
    clear H1
    by_cases c8 : 0 < (t101.length : Int)
    rotate_left
    ·rw [if_neg c8] at H
     exact absurd H (by simp)
    rw [if_pos c8] at H
    have c8b0 : decide (0 < (t101.length : Int)) = true := decide_eq_true c8
    have c8b1 : decide (0 < t101.length) = true := decide_eq_true (by omega)
    clear c8
    replace H := Option.bind_eq_some_iff.mp H
    obtain ⟨⟨t106, t107⟩, A90, H⟩ := H
    (try dsimp only at H)
    have A9 := Aside0.mk A90
    clear A90
    have HC10 := Aside0.mk H
    clear H
    obtain ⟨Ao11, co11, eo11⟩ := Kd.bc_ HO_5.out
    subst eo11
    have p105 : 0 ≤ (0 : Int) := (by omega)
    have q105 : 0 < (t101.length : Int) := of_decide_eq_true (by assumption)
    obtain ⟨ad105, e105, hx105_0⟩ := Kd.bp_ (Kd.ay_ HO_5.out).2.2 0 p105 q105
    cases e105
    have qi105 : (0 < t101.length) = True := eq_true (by omega)
    (try rw [show ((0 : Int)).toNat = 0 from rfl] at hx105_0)
    (try rw [Addr.add_zero'] at hx105_0)
    replace p105 := eq_true p105
    replace q105 := eq_true q105
    go_upto_if 33 with (first | ((with_reducible refine as_ (f := 30) rfl ?_); refine aY_ (some 29) rfl rfl Tryd.func30 (by kernel_rfl) rfl #[.string (rdOf ByteArray.empty t101 0)] rfl (by first | rfl | (simp only [List.map_toArray, List.map_cons, List.map_nil]; first | done | rfl)) ?_; (with_reducible refine (aR_.calls kj2 (rdOf ByteArray.empty t101 0) t106 t107 _ A9.out).mono ?_); rintro e w12 ⟨rfl, hb⟩; refine ⟨_, rfl, ?_⟩; replace HO_5 := Aside0.mk (Kd.aZ_ (rz HO_5.out) hb); replace HB := Aside0.mk (au_ (bz HB.out) hb); (try clear hb)))
    (try simp only [Act.put, lsa_, ls0_, ls1_])
    have H := HC10.out
    clear HC10
    by_cases c13 : t107 = true
    rotate_left
    ·replace c13 := Bool.eq_false_iff.mpr c13
     subst c13
     have H1 : (some (([] : List (S43)), 1, 9)) = some (r1, r2, r3) := by rw [if_neg (show ¬ (false = true) by decide)] at H; exact H
     clear H
     have H := H1
     clear H1
     simp only [Option.some.injEq, Prod.mk.injEq] at H
     obtain ⟨rfl, rfl, rfl⟩ := H
     go_wp2
     go_ret3
     exact ⟨_, by first | rfl | (simp [*, ap_, aq_] <;> rfl), by first | exact Kd.R_nil _ _ _ _ _ | exact Kd.N_nil _ _ _ _ _ | exact Kd.V_nil _ _ _ _ _ | exact Kd.Q_nil _ _ _ _ _ | exact Kd.S_nil _ _ _ _ _, bz HB.out⟩
    subst c13
    have H1 : (an_.l0 kj2 t101 t106 (([] : List (S43))) 1) = some (r1, r2, r3) := by rw [if_pos rfl] at H; exact H
    clear H
    have H := H1
    clear H1
    obtain ⟨y108, hy108⟩ : ∃ y_ : List (S43), y_ = (([] : List (S43))) := ⟨_, rfl⟩
    replace H : (an_.l0 kj2 t101 t106 y108 1) = some (r1, r2, r3) := by first | (rw [hy108]; with_reducible exact H) | (have H2_ := (Option.bind_some _ _).symm.trans H; rw [hy108]; with_reducible exact H2_) | (have H2_ := (Option.bind_some _ _).symm.trans H; with_reducible exact H2_) | with_reducible exact H | (rw [hy108]; exact H) | exact H
    have Ny108 := Aside0.mk hy108
    clear hy108
    have H' := Aside0.mk H
    clear H
    go_wp2_with (first | ((with_reducible refine bn_ (N := 34) rfl ?_); (try (refine bC_ (by rfl) ?_; dsimp only)); refine Kd.R_lit k43 _ 43 ?hg (N := 34) ?hd (xs := ([] : List (S43))) (inner := []) (ok := fun _ => True) (okp := fun _ => True) ?hr ?hp (fun _ hk => hk) trivial (Below.refl _ _) (Nat.le_refl _) (by simp) ?_; (case hd => rfl); (case hg => rfl); (case hr => (go_simp; try rfl)); (case hp => exact (Reps.none _ _)); intro v109 w14 ho15 hb hg_ hnew_; clear hg_ hnew_; (first | rw [← Ny108.out] at ho15 | (simp only [Int.reduceToNat] at ho15; rw [← Ny108.out] at ho15)); replace HO_5 := Aside0.mk (Kd.aZ_ (rz HO_5.out) hb); have HO110 := Aside0.mk (Kd.bw_ ho15 (aw_ (bz HB.out))); replace HB := Aside0.mk (au_ (bz HB.out) hb); clear hb ho15))
    (try simp only [Act.put, lsa_, ls0_, ls1_])
    go_loopg [9, 10] kj2 (fun kq v9 v10 w' => ∃ (x9_2 : List (S43)) (x10_2 : Int), v10 = .int .i64 x10_2 ∧ Aside0 (an_.l0 kq t101 t106 x9_2 x10_2 = some (r1, r2, r3)) ∧ Aside0 (kq ≤ kj2) ∧ Aside0 (Kd.R Kd.string 9 w' w.heap.size (fun _ => True) (.slice (some ad105) t101.length co11) t101) ∧ Aside0 (Kd.R k43 43 w' w.heap.size (fun _ => True) v9 x9_2) ∧ Aside0 (Below w.heap.size w w'))
    case atStart => exact ⟨(y108), (1), (by first | rfl | (simp; done) | (simp [*]; done)), H', ⟨Nat.le_refl _⟩, ⟨rz HO_5.out⟩, ⟨rz HO110.out⟩, ⟨bz HB.out⟩⟩
    case round =>
     clear H'
     obtain ⟨x9_2, x10_2, rfl, HA, HK2, HO_5, HO_9, HB⟩ := hrel
     cases gk with
     | zero => exact absurd HA.out (by simp [an_.l0])
     | succ k2 =>
      have H := HA.out
      clear HA
      simp only [an_.l0] at H
      by_cases c16 : x10_2 < (t101.length : Int)
      rotate_left
      ·rw [if_neg c16] at H
       have c16b0 : decide (x10_2 < (t101.length : Int)) = false := decide_eq_false c16
       clear c16
       (first | rw [c16b0] | (simp only [i64_w, i32_w]; rw [c16b0]) | (simp only [c16b1, Bool.not_true, Bool.not_false]) | (simp only [c16b0, Bool.not_true, Bool.not_false]) | skip)
       by_cases c39 : (x9_2.length : Int) = t106
       rotate_left
       ·rw [if_neg c39] at H
        have c39b0 : ((x9_2.length : Int) == t106) = false := beq_eq_false_iff_ne.mpr c39
        have c39b1 : ((x9_2.length : Int) != t106) = true := bne_iff_ne.mpr c39
        simp only [Option.some.injEq, Prod.mk.injEq] at H
        obtain ⟨rfl, rfl, rfl⟩ := H
        obtain ⟨Ao41, co41, eo41⟩ := Kd.bc_ HO_9.out
        subst eo41
        go_wp2
        go_ret3
        exact ⟨_, by first | rfl | (simp [*, ap_, aq_] <;> rfl), by first | exact Kd.R_nil _ _ _ _ _ | exact Kd.N_nil _ _ _ _ _ | exact Kd.V_nil _ _ _ _ _ | exact Kd.Q_nil _ _ _ _ _ | exact Kd.S_nil _ _ _ _ _, bz HB.out⟩
       rw [if_pos c39] at H
       have c39b0 : ((x9_2.length : Int) == t106) = true := beq_iff_eq.mpr c39
       have c39b1 : ((x9_2.length : Int) != t106) = false := bne_eq_false_iff_eq.mpr c39
       clear c39
       simp only [Option.some.injEq, Prod.mk.injEq] at H
       obtain ⟨rfl, rfl, rfl⟩ := H
       obtain ⟨Ao40, co40, eo40⟩ := Kd.bc_ HO_9.out
       subst eo40
       go_wp2
       go_ret3
       exact ⟨_, by first | rfl | (simp [*, ap_, aq_] <;> rfl), rz HO_9.out, bz HB.out⟩
      rw [if_pos c16] at H
      have c16b0 : decide (x10_2 < (t101.length : Int)) = true := decide_eq_true c16
      clear c16
      (first | rw [c16b0] | (simp only [i64_w, i32_w]; rw [c16b0]) | (simp only [c16b1, Bool.not_true, Bool.not_false]) | (simp only [c16b0, Bool.not_true, Bool.not_false]) | skip)
      by_cases c17 : 0 ≤ x10_2
      rotate_left
      ·rw [if_neg c17] at H
       exact absurd H (by simp)
      rw [if_pos c17] at H
      have c17b0 : decide (0 ≤ x10_2) = true := decide_eq_true c17
      clear c17
      replace H := Option.bind_eq_some_iff.mp H
      obtain ⟨⟨t112, t113, t114, t115⟩, A180, H⟩ := H
      (try dsimp only at H)
      have A18 := Aside0.mk A180
      clear A180
      have HC19 := Aside0.mk H
      clear H
      have p111 : 0 ≤ (x10_2 : Int) := of_decide_eq_true (by assumption)
      have q111 : x10_2 < (t101.length : Int) := of_decide_eq_true (by assumption)
      obtain ⟨ad111, e111, hx111_0⟩ := Kd.bp_ (Kd.ay_ HO_5.out).2.2 x10_2 p111 q111
      obtain rfl : ad105 = ad111 := (by injection e111)
      replace p111 := eq_true p111
      replace q111 := eq_true q111
      go_upto_if 50 with (first | ((with_reducible refine as_ (f := 27) rfl ?_); refine aY_ (some 46) rfl rfl Tryd.func27 (by kernel_rfl) rfl #[.string (rdOf ByteArray.empty t101 x10_2)] rfl (by first | rfl | (simp only [List.map_toArray, List.map_cons, List.map_nil]; first | done | rfl)) ?_; (with_reducible refine (ac_.calls k2 (rdOf ByteArray.empty t101 x10_2) t112 t113 t114 t115 _ A18.out).mono ?_); rintro e w20 ⟨rfl, hb⟩; refine ⟨_, rfl, ?_⟩; replace HO_5 := Aside0.mk (Kd.aZ_ (rz HO_5.out) hb); replace HO_9 := Aside0.mk (Kd.aZ_ (rz HO_9.out) hb); replace HB := Aside0.mk (au_ (bz HB.out) hb); (try clear hb)) | ((with_reducible refine bn_ (N := 11) rfl ?_); (try (refine bC_ (by rfl) ?_; dsimp only)); refine bs_ ?hg (N := 11) ?hd (cs := #[.string (⟨#[]⟩ : ByteArray), .string (⟨#[]⟩ : ByteArray), .string (⟨#[]⟩ : ByteArray)]) (t := 43) ?hr ?_; (case hd => rfl); (case hg => rfl); (case hr => (go_simp; try rfl)); intro gb116 hg w21 hbox hb; replace HO_5 := Aside0.mk (Kd.aZ_ (rz HO_5.out) hb); replace HO_9 := Aside0.mk (Kd.aZ_ (Kd.R_elderB (rz HO_9.out) gb116 (Nat.le_of_eq hg.symm)) hb); have BK116 := Aside0.mk (hbox); have GW116 := Aside0.mk ((by rw [hg]; exact (aw_ (bz HB.out)) : w.heap.size ≤ gb116)); have GE116 := Aside0.mk ((by rw [hg]; exact (aw_ (bz HB.out)) : w.heap.size ≤ gb116)); replace HB := Aside0.mk (au_ (bz HB.out) hb); clear hb hbox hg; have hcz22_0 : w21.cell? ⟨gb116, 0, none⟩ = some (.string (⟨#[]⟩ : ByteArray)) := (ai_ BK116.out 0).trans rfl; have hcz22_1 : w21.cell? ⟨gb116, 1, none⟩ = some (.string (⟨#[]⟩ : ByteArray)) := (ai_ BK116.out 1).trans rfl; have hcz22_2 : w21.cell? ⟨gb116, 2, none⟩ = some (.string (⟨#[]⟩ : ByteArray)) := (ai_ BK116.out 2).trans rfl; have hfz22_0 := ab_ BK116.out 0; have hfz22_1 := ab_ BK116.out 1; have hfz22_2 := ab_ BK116.out 2))
      (try simp only [Act.put, lsa_, ls0_, ls1_])
      have H := HC19.out
      clear HC19
      by_cases c23 : t115 = 0
      rotate_left
      ·rw [if_neg c23] at H
       have c23b0 : (t115 == 0) = false := beq_eq_false_iff_ne.mpr c23
       have c23b1 : (t115 != 0) = true := bne_iff_ne.mpr c23
       (first | rw [c23b0] | (simp only [i64_w, i32_w]; rw [c23b0]) | (simp only [c23b1, Bool.not_true, Bool.not_false]) | (simp only [c23b0, Bool.not_true, Bool.not_false]) | skip)
       simp only [Option.some.injEq, Prod.mk.injEq] at H
       obtain ⟨rfl, rfl, rfl⟩ := H
       go_wp2
       go_ret3
       exact ⟨_, by first | rfl | (simp [*, ap_, aq_] <;> rfl), by first | exact Kd.R_nil _ _ _ _ _ | exact Kd.N_nil _ _ _ _ _ | exact Kd.V_nil _ _ _ _ _ | exact Kd.Q_nil _ _ _ _ _ | exact Kd.S_nil _ _ _ _ _, by repeat (first | (with_reducible first | exact HB.out | apply bA_ | apply bN_ | apply bD_ | refine al_ ?_ GE116.out) | exact HB.out)⟩
      rw [if_pos c23] at H
      have c23b0 : (t115 == 0) = true := beq_iff_eq.mpr c23
      have c23b1 : (t115 != 0) = false := bne_eq_false_iff_eq.mpr c23
      clear c23
      (first | rw [c23b0] | (simp only [i64_w, i32_w]; rw [c23b0]) | (simp only [c23b1, Bool.not_true, Bool.not_false]) | (simp only [c23b0, Bool.not_true, Bool.not_false]) | skip)
      by_cases c24 : (x9_2.length : Int) > 0
      rotate_left
      ·rw [if_neg c24] at H
       have c24b0 : decide (0 < (x9_2.length : Int)) = false := decide_eq_false c24
       have c24b1 : decide (0 < x9_2.length) = false := decide_eq_false (by omega)
       clear c24
       by_cases c35 : x9_2.length < 2932031007402
       rotate_left
       ·rw [if_neg c35] at H
        exact absurd H (by simp)
       rw [if_pos c35] at H
       have LMc35 := Aside0.mk c35
       clear c35
       obtain ⟨y122, hy122⟩ : ∃ y_ : List (S43), y_ = (x9_2 ++ [(⟨t112, t113, t114⟩ : S43)]) := ⟨_, rfl⟩
       replace H : (an_.l0 k2 t101 t106 y122 (wrap64 (x10_2 + 1))) = some (r1, r2, r3) := by first | (rw [hy122]; with_reducible exact H) | (have H2_ := (Option.bind_some _ _).symm.trans H; rw [hy122]; with_reducible exact H2_) | (have H2_ := (Option.bind_some _ _).symm.trans H; with_reducible exact H2_) | with_reducible exact H | (rw [hy122]; exact H) | exact H
       have Ny122 := Aside0.mk hy122
       clear hy122
       have H' := Aside0.mk H
       clear H
       obtain ⟨Ao36, co36, eo36⟩ := Kd.bc_ HO_9.out
       subst eo36
       have hcz37_0 : w21.cell? ⟨gb116, 0, none⟩ = some (.string (⟨#[]⟩ : ByteArray)) := (ai_ BK116.out 0).trans rfl
       have hcz37_1 : w21.cell? ⟨gb116, 1, none⟩ = some (.string (⟨#[]⟩ : ByteArray)) := (ai_ BK116.out 1).trans rfl
       have hcz37_2 : w21.cell? ⟨gb116, 2, none⟩ = some (.string (⟨#[]⟩ : ByteArray)) := (ai_ BK116.out 2).trans rfl
       have hfz37_0 := ab_ BK116.out 0
       have hfz37_1 := ab_ BK116.out 1
       have hfz37_2 := ab_ BK116.out 2
       go_wp2_with (first | ((with_reducible refine bo_ (b := .append) (xs := #[.tmp 68, .tmp 70]) rfl ?_); (try (refine bC_ (by rfl) ?_; dsimp only)); at_builtin; refine Kd.bM_ k43 (w0 := w) w.heap.size rfl (.tmp 68) (.tmp 70) 27 43 (.agg #[(.string ⟨#[]⟩), (.string ⟨#[]⟩), (.string ⟨#[]⟩)]) 48 rfl Tryd.underlying27 info43 rfl (by decide) (by omega) (.slice Ao36 x9_2.length co36) x9_2 (⟨t112, t113, t114⟩ : S43) [.string t112, .string t113, .string t114] (fun k_ => k_ ≠ gb116) (fun _ => False) rfl (by first | (go_simp; done) | (go_simp; rfl)) ?aP (fun _ hk => hk.elim) ?aF ?aO ?aB ?aS ?aL ?_; (case aP => exact k43_mkM _ _ _ (⟨t112, t113, t114⟩ : S43)); (case aB => exact (by repeat (first | (with_reducible first | exact HB.out | apply bA_ | apply bN_ | apply bD_ | refine al_ ?_ GE116.out) | exact HB.out))); (case aF => exact (fun k_ hk => Kd.freshB (g := gb116) (o := .cells #[.string t112, .string t113, .string t114] 43 (0, 0)) (by (with_reducible repeat (first | refine ae_ ?_ _ | refine am_ ?_ | refine af_ ?_ _)); refine aI_ (cs := #[.string t112, .string t113, .string (⟨#[]⟩ : ByteArray)]) ?_ 2 _ rfl; (with_reducible repeat (first | refine ae_ ?_ _ | refine am_ ?_ | refine af_ ?_ _)); refine aI_ (cs := #[.string t112, .string (⟨#[]⟩ : ByteArray), .string (⟨#[]⟩ : ByteArray)]) ?_ 1 _ rfl; (with_reducible repeat (first | refine ae_ ?_ _ | refine am_ ?_ | refine af_ ?_ _)); refine aI_ (cs := #[.string (⟨#[]⟩ : ByteArray), .string (⟨#[]⟩ : ByteArray), .string (⟨#[]⟩ : ByteArray)]) ?_ 0 _ rfl; (with_reducible repeat (first | refine ae_ ?_ _ | refine am_ ?_ | refine af_ ?_ _)); exact BK116.out) k_ hk)); (case aO => exact (rz (Kd.ba_ (Kd.R_far (p := ⟨gb116, 2, none⟩) (Kd.R_far (p := ⟨gb116, 1, none⟩) (Kd.R_far (p := ⟨gb116, 0, none⟩) (Kd.ba_ HO_9.out (fun k_ hk => (⟨hk, hk.2⟩ : _ ∧ k_ ≠ gb116))) (fun _ hk => hk.2) (.string t112)) (fun _ hk => hk.2) (.string t113)) (fun _ hk => hk.2) (.string t114)) (fun _ hk => hk.1.2)))); (case aS => exact (aw_ (by repeat (first | (with_reducible first | exact HB.out | apply bA_ | apply bN_ | apply bD_ | refine al_ ?_ GE116.out) | exact HB.out)))); (case aL => have := LMc35.out; omega); intro v123 w38 ho hb hg hat; rw [← Ny122.out] at ho; replace HO_5 := Aside0.mk (Kd.R_over' (rz (Kd.ba_ (Kd.R_far (p := ⟨gb116, 2, none⟩) (Kd.R_far (p := ⟨gb116, 1, none⟩) (Kd.R_far (p := ⟨gb116, 0, none⟩) (Kd.R_types HO_5.out BK116.out (by decide)) (fun _ hk => hk.2) (.string t112)) (fun _ hk => hk.2) (.string t113)) (fun _ hk => hk.2) (.string t114)) (fun _ h_ => h_.1))) (Kd.R_typed (rz (Kd.ba_ (Kd.R_far (p := ⟨gb116, 2, none⟩) (Kd.R_far (p := ⟨gb116, 1, none⟩) (Kd.R_far (p := ⟨gb116, 0, none⟩) (Kd.ba_ HO_9.out (fun k_ hk => (⟨hk, hk.2⟩ : _ ∧ k_ ≠ gb116))) (fun _ hk => hk.2) (.string t112)) (fun _ hk => hk.2) (.string t113)) (fun _ hk => hk.2) (.string t114)) (fun _ h_ => h_.1)))) (by decide) hg); replace BK116 := Aside0.mk (blk_grown (g := gb116) (o := .cells #[.string t112, .string t113, .string t114] 43 (0, 0)) (by (with_reducible repeat (first | refine ae_ ?_ _ | refine am_ ?_ | refine af_ ?_ _)); refine aI_ (cs := #[.string t112, .string t113, .string (⟨#[]⟩ : ByteArray)]) ?_ 2 _ rfl; (with_reducible repeat (first | refine ae_ ?_ _ | refine am_ ?_ | refine af_ ?_ _)); refine aI_ (cs := #[.string t112, .string (⟨#[]⟩ : ByteArray), .string (⟨#[]⟩ : ByteArray)]) ?_ 1 _ rfl; (with_reducible repeat (first | refine ae_ ?_ _ | refine am_ ?_ | refine af_ ?_ _)); refine aI_ (cs := #[.string (⟨#[]⟩ : ByteArray), .string (⟨#[]⟩ : ByteArray), .string (⟨#[]⟩ : ByteArray)]) ?_ 0 _ rfl; (with_reducible repeat (first | refine ae_ ?_ _ | refine am_ ?_ | refine af_ ?_ _)); exact BK116.out) hg (Kd.R_away HO_9.out (fun _ hk => hk.2))); replace HB := Aside0.mk (hb); have HO124 := Aside0.mk (ho); clear HO_9; clear ho hb hg hat))
       go_roundg k2
       case measure => have := HJ2.out; have := HK2.out; omega
       case rel => exact ⟨(y122), (wrap64 (x10_2 + 1)), (by first | rfl | (simp; done) | (simp [*]; done)), H', ⟨by have := HJ2.out; have := HK2.out; omega⟩, ⟨rz HO_5.out⟩, ⟨rz (Kd.ba_ HO124.out (fun _ hk => trivial))⟩, ⟨by repeat (first | (with_reducible first | exact HB.out | apply bA_ | apply bN_ | apply bD_ | refine al_ ?_ GE116.out) | exact HB.out)⟩⟩
      rw [if_pos c24] at H
      have c24b0 : decide (0 < (x9_2.length : Int)) = true := decide_eq_true c24
      have c24b1 : decide (0 < x9_2.length) = true := decide_eq_true (by omega)
      clear c24
      obtain ⟨ji25, hji25⟩ : ∃ j_ : Int, (wrap64 ((x9_2.length : Int) - 1)) = j_ := ⟨_, rfl⟩
      replace H : (if 0 ≤ (ji25) then (if (ji25) < (x9_2.length : Int) then ((bm_.f [aj_ x9_2 (ji25)] [(⟨t112, t113, t114⟩ : S43)]).bind fun t118 => (if t118 = true then (if x9_2.length < 2932031007402 then (an_.l0 k2 t101 t106 (x9_2 ++ [(⟨t112, t113, t114⟩ : S43)]) (wrap64 (x10_2 + 1))) else (none)) else (some (([] : List (S43)), wrap64 (x10_2 + 1), 7)))) else (none)) else (none)) = some (r1, r2, r3) := by first | (rw [hji25] at H; exact H) | (simp only [hji25] at H ⊢; exact H)
      have hji25w : (IntKind.i64.wrap ((x9_2.length : Int) - 1)) = ji25 := (i64_w _).trans hji25
      by_cases c26 : 0 ≤ (ji25)
      rotate_left
      ·rw [if_neg c26] at H
       exact absurd H (by simp)
      rw [if_pos c26] at H
      have c26b0 : decide (0 ≤ (ji25)) = true := decide_eq_true c26
      clear c26
      by_cases c27 : (ji25) < (x9_2.length : Int)
      rotate_left
      ·rw [if_neg c27] at H
       exact absurd H (by simp)
      rw [if_pos c27] at H
      have c27b0 : decide ((ji25) < (x9_2.length : Int)) = true := decide_eq_true c27
      clear c27
      replace H := Option.bind_eq_some_iff.mp H
      obtain ⟨t118, A280, H⟩ := H
      (try dsimp only at H)
      have A28 := Aside0.mk A280
      clear A280
      have HC29 := Aside0.mk H
      clear H
      obtain ⟨Ao30, co30, eo30⟩ := Kd.bc_ HO_9.out
      subst eo30
      have p117 : 0 ≤ ((ji25) : Int) := of_decide_eq_true (by assumption)
      have q117 : (ji25) < (x9_2.length : Int) := of_decide_eq_true (by assumption)
      obtain ⟨ad117, e117, hx117_0, hx117_1, hx117_2⟩ := bk_ (Kd.ay_ HO_9.out).2.2 (ji25) p117 q117
      cases e117
      have hn117_0 : ad117.block ≠ gb116 := Kd.aX_ (Kd.R_away HO_9.out (fun _ hk => hk.2))
      have hn117_1 : ad117.block ≠ gb116 := Kd.aX_ (Kd.R_away HO_9.out (fun _ hk => hk.2))
      have hn117_2 : ad117.block ≠ gb116 := Kd.aX_ (Kd.R_away HO_9.out (fun _ hk => hk.2))
      replace hx117_0 := (cell_far (p := ⟨gb116, 0, none⟩) (by first | (rw [add_block]; exact hn117_0) | (show (Addr.add _ _).block ≠ _; rw [add_block]; exact hn117_0) | exact hn117_0) (.string t112)).trans hx117_0
      replace hx117_1 := (cell_far (p := ⟨gb116, 0, none⟩) (by first | (rw [add_block]; exact hn117_0) | (show (Addr.add _ _).block ≠ _; rw [add_block]; exact hn117_0) | exact hn117_0) (.string t112)).trans hx117_1
      replace hx117_2 := (cell_far (p := ⟨gb116, 0, none⟩) (by first | (rw [add_block]; exact hn117_0) | (show (Addr.add _ _).block ≠ _; rw [add_block]; exact hn117_0) | exact hn117_0) (.string t112)).trans hx117_2
      replace hx117_0 := (cell_far (p := ⟨gb116, 1, none⟩) (by first | (rw [add_block]; exact hn117_1) | (show (Addr.add _ _).block ≠ _; rw [add_block]; exact hn117_1) | exact hn117_1) (.string t113)).trans hx117_0
      replace hx117_1 := (cell_far (p := ⟨gb116, 1, none⟩) (by first | (rw [add_block]; exact hn117_1) | (show (Addr.add _ _).block ≠ _; rw [add_block]; exact hn117_1) | exact hn117_1) (.string t113)).trans hx117_1
      replace hx117_2 := (cell_far (p := ⟨gb116, 1, none⟩) (by first | (rw [add_block]; exact hn117_1) | (show (Addr.add _ _).block ≠ _; rw [add_block]; exact hn117_1) | exact hn117_1) (.string t113)).trans hx117_2
      replace hx117_0 := (cell_far (p := ⟨gb116, 2, none⟩) (by first | (rw [add_block]; exact hn117_2) | (show (Addr.add _ _).block ≠ _; rw [add_block]; exact hn117_2) | exact hn117_2) (.string t114)).trans hx117_0
      replace hx117_1 := (cell_far (p := ⟨gb116, 2, none⟩) (by first | (rw [add_block]; exact hn117_2) | (show (Addr.add _ _).block ≠ _; rw [add_block]; exact hn117_2) | exact hn117_2) (.string t114)).trans hx117_1
      replace hx117_2 := (cell_far (p := ⟨gb116, 2, none⟩) (by first | (rw [add_block]; exact hn117_2) | (show (Addr.add _ _).block ≠ _; rw [add_block]; exact hn117_2) | exact hn117_2) (.string t114)).trans hx117_2
      clear hn117_0
      clear hn117_1
      clear hn117_2
      replace p117 := eq_true p117
      replace q117 := eq_true q117
      go_upto_if 65 with (first | (go_at_call 31; (with_reducible refine (bm_.calls _ [aj_ x9_2 (ji25)] _ [(⟨t112, t113, t114⟩ : S43)] t118 _ ?side1 ?side2 A28.out).mono ?_); (case side1 => exact (RPW.C_elem (ad := ad117) (n := x9_2.length) (xs := x9_2) z43 (i := (ji25)) (by first | exact of_eq_true p117 | exact p117 | omega) (by first | exact of_eq_true q117 | exact q117 | omega) (by refine (Kd.ay_ (e := 43) (base := w.heap.size) (ok := fun k_ => (True ∧ k_ ≠ gb116)) (n := x9_2.length) (c := co30) ?_).2.2; exact (rz (Kd.ba_ (Kd.R_far (p := ⟨gb116, 2, none⟩) (Kd.R_far (p := ⟨gb116, 1, none⟩) (Kd.R_far (p := ⟨gb116, 0, none⟩) (Kd.ba_ HO_9.out (fun k_ hk => (⟨hk, hk.2⟩ : _ ∧ k_ ≠ gb116))) (fun _ hk => hk.2) (.string t112)) (fun _ hk => hk.2) (.string t113)) (fun _ hk => hk.2) (.string t114)) (fun _ h_ => h_.1)))))); (case side2 => exact (RPW.C_blk (cs := [.string t112, .string t113, .string t114]) (t := 43) (g := gb116) (by (with_reducible repeat (first | refine ae_ ?_ _ | refine am_ ?_ | refine af_ ?_ _)); refine aI_ (cs := #[.string t112, .string t113, .string (⟨#[]⟩ : ByteArray)]) ?_ 2 _ rfl; (with_reducible repeat (first | refine ae_ ?_ _ | refine am_ ?_ | refine af_ ?_ _)); refine aI_ (cs := #[.string t112, .string (⟨#[]⟩ : ByteArray), .string (⟨#[]⟩ : ByteArray)]) ?_ 1 _ rfl; (with_reducible repeat (first | refine ae_ ?_ _ | refine am_ ?_ | refine af_ ?_ _)); refine aI_ (cs := #[.string (⟨#[]⟩ : ByteArray), .string (⟨#[]⟩ : ByteArray), .string (⟨#[]⟩ : ByteArray)]) ?_ 0 _ rfl; (with_reducible repeat (first | refine ae_ ?_ _ | refine am_ ?_ | refine af_ ?_ _)); exact BK116.out) (k43_mk _ (⟨t112, t113, t114⟩ : S43)))); rintro e w' ⟨rfl, ⟨nd, rfl⟩⟩))
      (try simp only [Act.put, lsa_, ls0_, ls1_])
      have H := HC29.out
      clear HC29
      by_cases c31 : t118 = true
      rotate_left
      ·replace c31 := Bool.eq_false_iff.mpr c31
       subst c31
       have H1 : (some (([] : List (S43)), wrap64 (x10_2 + 1), 7)) = some (r1, r2, r3) := by rw [if_neg (show ¬ (false = true) by decide)] at H; exact H
       clear H
       have H := H1
       clear H1
       simp only [Option.some.injEq, Prod.mk.injEq] at H
       obtain ⟨rfl, rfl, rfl⟩ := H
       go_wp2
       go_ret3
       exact ⟨_, by first | rfl | (simp [ap_, aq_] <;> rfl) | (simp only [← hji25]; first | rfl | (simp [ap_, aq_] <;> rfl)) | (simp [*, ap_, aq_] <;> rfl), by first | exact Kd.R_nil _ _ _ _ _ | exact Kd.N_nil _ _ _ _ _ | exact Kd.V_nil _ _ _ _ _ | exact Kd.Q_nil _ _ _ _ _ | exact Kd.S_nil _ _ _ _ _, by repeat (first | (with_reducible first | exact HB.out | apply bA_ | apply bN_ | apply bD_ | refine al_ ?_ GE116.out) | exact HB.out)⟩
      subst c31
      have H1 : (if x9_2.length < 2932031007402 then (an_.l0 k2 t101 t106 (x9_2 ++ [(⟨t112, t113, t114⟩ : S43)]) (wrap64 (x10_2 + 1))) else (none)) = some (r1, r2, r3) := by rw [if_pos rfl] at H; exact H
      clear H
      have H := H1
      clear H1
      by_cases c32 : x9_2.length < 2932031007402
      rotate_left
      ·rw [if_neg c32] at H
       exact absurd H (by simp)
      rw [if_pos c32] at H
      have LMc32 := Aside0.mk c32
      clear c32
      obtain ⟨y119, hy119⟩ : ∃ y_ : List (S43), y_ = (x9_2 ++ [(⟨t112, t113, t114⟩ : S43)]) := ⟨_, rfl⟩
      replace H : (an_.l0 k2 t101 t106 y119 (wrap64 (x10_2 + 1))) = some (r1, r2, r3) := by first | (rw [hy119]; with_reducible exact H) | (have H2_ := (Option.bind_some _ _).symm.trans H; rw [hy119]; with_reducible exact H2_) | (have H2_ := (Option.bind_some _ _).symm.trans H; with_reducible exact H2_) | with_reducible exact H | (rw [hy119]; exact H) | exact H
      have Ny119 := Aside0.mk hy119
      clear hy119
      have H' := Aside0.mk H
      clear H
      have hcz33_0 : w21.cell? ⟨gb116, 0, none⟩ = some (.string (⟨#[]⟩ : ByteArray)) := (ai_ BK116.out 0).trans rfl
      have hcz33_1 : w21.cell? ⟨gb116, 1, none⟩ = some (.string (⟨#[]⟩ : ByteArray)) := (ai_ BK116.out 1).trans rfl
      have hcz33_2 : w21.cell? ⟨gb116, 2, none⟩ = some (.string (⟨#[]⟩ : ByteArray)) := (ai_ BK116.out 2).trans rfl
      have hfz33_0 := ab_ BK116.out 0
      have hfz33_1 := ab_ BK116.out 1
      have hfz33_2 := ab_ BK116.out 2
      go_wp2_with (first | ((with_reducible refine bo_ (b := .append) (xs := #[.tmp 68, .tmp 70]) rfl ?_); (try (refine bC_ (by rfl) ?_; dsimp only)); at_builtin; refine Kd.bM_ k43 (w0 := w) w.heap.size rfl (.tmp 68) (.tmp 70) 27 43 (.agg #[(.string ⟨#[]⟩), (.string ⟨#[]⟩), (.string ⟨#[]⟩)]) 48 rfl Tryd.underlying27 info43 rfl (by decide) (by omega) (.slice (some ad117) x9_2.length co30) x9_2 (⟨t112, t113, t114⟩ : S43) [.string t112, .string t113, .string t114] (fun k_ => k_ ≠ gb116) (fun _ => False) rfl (by first | (go_simp; done) | (go_simp; rfl)) ?aP (fun _ hk => hk.elim) ?aF ?aO ?aB ?aS ?aL ?_; (case aP => exact k43_mkM _ _ _ (⟨t112, t113, t114⟩ : S43)); (case aB => exact (by repeat (first | (with_reducible first | exact HB.out | apply bA_ | apply bN_ | apply bD_ | refine al_ ?_ GE116.out) | exact HB.out))); (case aF => exact (fun k_ hk => Kd.freshB (g := gb116) (o := .cells #[.string t112, .string t113, .string t114] 43 (0, 0)) (by (with_reducible repeat (first | refine ae_ ?_ _ | refine am_ ?_ | refine af_ ?_ _)); refine aI_ (cs := #[.string t112, .string t113, .string (⟨#[]⟩ : ByteArray)]) ?_ 2 _ rfl; (with_reducible repeat (first | refine ae_ ?_ _ | refine am_ ?_ | refine af_ ?_ _)); refine aI_ (cs := #[.string t112, .string (⟨#[]⟩ : ByteArray), .string (⟨#[]⟩ : ByteArray)]) ?_ 1 _ rfl; (with_reducible repeat (first | refine ae_ ?_ _ | refine am_ ?_ | refine af_ ?_ _)); refine aI_ (cs := #[.string (⟨#[]⟩ : ByteArray), .string (⟨#[]⟩ : ByteArray), .string (⟨#[]⟩ : ByteArray)]) ?_ 0 _ rfl; (with_reducible repeat (first | refine ae_ ?_ _ | refine am_ ?_ | refine af_ ?_ _)); exact BK116.out) k_ hk)); (case aO => exact (rz (Kd.ba_ (Kd.R_far (p := ⟨gb116, 2, none⟩) (Kd.R_far (p := ⟨gb116, 1, none⟩) (Kd.R_far (p := ⟨gb116, 0, none⟩) (Kd.ba_ HO_9.out (fun k_ hk => (⟨hk, hk.2⟩ : _ ∧ k_ ≠ gb116))) (fun _ hk => hk.2) (.string t112)) (fun _ hk => hk.2) (.string t113)) (fun _ hk => hk.2) (.string t114)) (fun _ hk => hk.1.2)))); (case aS => exact (aw_ (by repeat (first | (with_reducible first | exact HB.out | apply bA_ | apply bN_ | apply bD_ | refine al_ ?_ GE116.out) | exact HB.out)))); (case aL => have := LMc32.out; omega); intro v120 w34 ho hb hg hat; rw [← Ny119.out] at ho; replace HO_5 := Aside0.mk (Kd.R_over' (rz (Kd.ba_ (Kd.R_far (p := ⟨gb116, 2, none⟩) (Kd.R_far (p := ⟨gb116, 1, none⟩) (Kd.R_far (p := ⟨gb116, 0, none⟩) (Kd.R_types HO_5.out BK116.out (by decide)) (fun _ hk => hk.2) (.string t112)) (fun _ hk => hk.2) (.string t113)) (fun _ hk => hk.2) (.string t114)) (fun _ h_ => h_.1))) (Kd.R_typed (rz (Kd.ba_ (Kd.R_far (p := ⟨gb116, 2, none⟩) (Kd.R_far (p := ⟨gb116, 1, none⟩) (Kd.R_far (p := ⟨gb116, 0, none⟩) (Kd.ba_ HO_9.out (fun k_ hk => (⟨hk, hk.2⟩ : _ ∧ k_ ≠ gb116))) (fun _ hk => hk.2) (.string t112)) (fun _ hk => hk.2) (.string t113)) (fun _ hk => hk.2) (.string t114)) (fun _ h_ => h_.1)))) (by decide) hg); replace BK116 := Aside0.mk (blk_grown (g := gb116) (o := .cells #[.string t112, .string t113, .string t114] 43 (0, 0)) (by (with_reducible repeat (first | refine ae_ ?_ _ | refine am_ ?_ | refine af_ ?_ _)); refine aI_ (cs := #[.string t112, .string t113, .string (⟨#[]⟩ : ByteArray)]) ?_ 2 _ rfl; (with_reducible repeat (first | refine ae_ ?_ _ | refine am_ ?_ | refine af_ ?_ _)); refine aI_ (cs := #[.string t112, .string (⟨#[]⟩ : ByteArray), .string (⟨#[]⟩ : ByteArray)]) ?_ 1 _ rfl; (with_reducible repeat (first | refine ae_ ?_ _ | refine am_ ?_ | refine af_ ?_ _)); refine aI_ (cs := #[.string (⟨#[]⟩ : ByteArray), .string (⟨#[]⟩ : ByteArray), .string (⟨#[]⟩ : ByteArray)]) ?_ 0 _ rfl; (with_reducible repeat (first | refine ae_ ?_ _ | refine am_ ?_ | refine af_ ?_ _)); exact BK116.out) hg (Kd.R_away HO_9.out (fun _ hk => hk.2))); replace HB := Aside0.mk (hb); have HO121 := Aside0.mk (ho); clear HO_9; clear ho hb hg hat))
      go_roundg k2
      case measure => have := HJ2.out; have := HK2.out; omega
      case rel => exact ⟨(y119), (wrap64 (x10_2 + 1)), (by first | rfl | (simp; done) | (simp [*]; done)), H', ⟨by have := HJ2.out; have := HK2.out; omega⟩, ⟨rz HO_5.out⟩, ⟨rz (Kd.ba_ HO121.out (fun _ hk => trivial))⟩, ⟨by repeat (first | (with_reducible first | exact HB.out | apply bA_ | apply bN_ | apply bD_ | refine al_ ?_ GE116.out) | exact HB.out)⟩⟩
   subst c7
   have H1 : (some (([] : List (S43)), 0, 11)) = some (r1, r2, r3) := by rw [if_pos rfl] at H; exact H
   clear H
   have H := H1
   clear H1
   simp only [Option.some.injEq, Prod.mk.injEq] at H
   obtain ⟨rfl, rfl, rfl⟩ := H
   go_wp2
   go_ret3
   exact ⟨_, by first | rfl | (simp [*, ap_, aq_] <;> rfl), by first | exact Kd.R_nil _ _ _ _ _ | exact Kd.N_nil _ _ _ _ _ | exact Kd.V_nil _ _ _ _ _ | exact Kd.Q_nil _ _ _ _ _ | exact Kd.S_nil _ _ _ _ _, bz HB.out⟩
end Go.Proofs.YtjebkmfljcanlaaDoor.Q
namespace Go.Proofs
open Go.Shelf
def Tryd.lays106_ren : Go.Shelf.Ren := ⟨fun | 106 => 60 | 213 => 80 | 265 => 95 | n => n, fun | 9 => 9 | 3 => 3 | n => n, fun | n => n⟩
theorem Tryd.lays106 : Go.Proofs.Lays.n106 Tryd.prog Tryd.lays106_ren := {
 mixed := by kernel_rfl
 f106 := Tryd.func60.trans (congrArg some (by kernel_rfl))
 f213 := Tryd.func80.trans (congrArg some (by kernel_rfl))
 f265 := Tryd.func95.trans (congrArg some (by kernel_rfl))
 t3 := Tryd.underlying3
 a3 := Tryd.isAgg3
 z3 := Tryd.sizeOf3
 v3 := Tryd.zeroValue3
 t9 := Tryd.underlying9
 a9 := Tryd.isAgg9
 z9 := Tryd.sizeOf9
 v9 := Tryd.zeroValue9 }
open Go.RowKit in
theorem Tryd.strings_Compare (a b : ByteArray) (w : World) :
  Calls Tryd.prog 60 #[.string a, .string b] w fun e w' => e = .returned (.int .i64 (Lib.compareBytes a.data.toList b.data.toList)) ∧ w' = w := Any.strings_Compare Tryd.lays106 a b w
def Tryd.lays210_ren : Go.Shelf.Ren := ⟨fun | 210 => 57 | 206 => 78 | n => n, fun | 9 => 9 | 4 => 4 | 3 => 3 | n => n, fun | n => n⟩
theorem Tryd.lays210 : Go.Proofs.Lays.n210 Tryd.prog Tryd.lays210_ren := {
 mixed := by kernel_rfl
 f206 := Tryd.func78.trans (congrArg some (by kernel_rfl))
 f210 := Tryd.func57.trans (congrArg some (by kernel_rfl))
 t3 := Tryd.underlying3
 a3 := Tryd.isAgg3
 z3 := Tryd.sizeOf3
 v3 := Tryd.zeroValue3
 t4 := Tryd.underlying4
 a4 := Tryd.isAgg4
 z4 := Tryd.sizeOf4
 v4 := Tryd.zeroValue4
 t9 := Tryd.underlying9
 a9 := Tryd.isAgg9
 z9 := Tryd.sizeOf9
 v9 := Tryd.zeroValue9 }
open Go.RowKit in
theorem Tryd.stringslite_CutPrefix (s p : ByteArray) (w : World) :
  Calls Tryd.prog 57 #[.string s, .string p] w fun e w' => e = .returned (.tuple #[.string ⟨(Lib.trimPrefix s.data.toList p.data.toList).toArray⟩, .bool (Lib.hasPrefix s.data.toList p.data.toList)]) ∧ w' = w := Any.stringslite_CutPrefix Tryd.lays210 s p w
def Tryd.lays103_ren : Go.Shelf.Ren := ⟨fun | 103 => 33 | 210 => 57 | 206 => 78 | n => n, fun | 9 => 9 | 4 => 4 | 24 => 52 | 3 => 3 | n => n, fun | n => n⟩
theorem Tryd.lays103 : Go.Proofs.Lays.n103 Tryd.prog Tryd.lays103_ren := {
 mixed := by kernel_rfl
 f103 := Tryd.func33.trans (congrArg some (by kernel_rfl))
 f206 := Tryd.func78.trans (congrArg some (by kernel_rfl))
 f210 := Tryd.func57.trans (congrArg some (by kernel_rfl))
 t3 := Tryd.underlying3
 a3 := Tryd.isAgg3
 z3 := Tryd.sizeOf3
 v3 := Tryd.zeroValue3
 t4 := Tryd.underlying4
 a4 := Tryd.isAgg4
 z4 := Tryd.sizeOf4
 v4 := Tryd.zeroValue4
 t9 := Tryd.underlying9
 a9 := Tryd.isAgg9
 z9 := Tryd.sizeOf9
 v9 := Tryd.zeroValue9
 t24 := Tryd.underlying52
 a24 := Tryd.isAgg52
 z24 := Tryd.sizeOf52
 v24 := Tryd.zeroValue52 }
open Go.RowKit in
theorem Tryd.strings_CutPrefix (s p : ByteArray) (w : World) :
  Calls Tryd.prog 33 #[.string s, .string p] w fun e w' => e = .returned (.tuple #[.string ⟨(Lib.trimPrefix s.data.toList p.data.toList).toArray⟩, .bool (Lib.hasPrefix s.data.toList p.data.toList)]) ∧ w' = w := Any.strings_CutPrefix Tryd.lays103 s p w
def Tryd.laysM173_ren : Go.Shelf.Ren := ⟨fun | 173 => 79 | 246 => 94 | 283 => 106 | 284 => 107 | 285 => 108 | 286 => 109 | 129 => 119 | 317 => 118 | 318 => 120 | 319 => 121 | 320 => 122 | 337 => 123 | 338 => 124 | n => n, fun | 2 => 2 | 3 => 3 | 9 => 9 | 4 => 4 | 171 => 113 | 0 => 0 | 53 => 79 | 37 => 33 | 5 => 5 | 173 => 116 | 212 => 132 | 51 => 128 | 20 => 20 | 213 => 133 | 46 => 85 | 232 => 137 | 233 => 138 | n => n, fun | 17 => 3 | 18 => 4 | 19 => 5 | n => n⟩
theorem Tryd.laysM173 : Go.Proofs.LaysM.n173 Tryd.prog Tryd.laysM173_ren := {
 mixed := by kernel_rfl
 f129 := Tryd.func119.trans (congrArg some (by kernel_rfl))
 f173 := Tryd.func79.trans (congrArg some (by kernel_rfl))
 f246 := Tryd.func94.trans (congrArg some (by kernel_rfl))
 f283 := Tryd.func106.trans (congrArg some (by kernel_rfl))
 f284 := Tryd.func107.trans (congrArg some (by kernel_rfl))
 f285 := Tryd.func108.trans (congrArg some (by kernel_rfl))
 f286 := Tryd.func109.trans (congrArg some (by kernel_rfl))
 f317 := Tryd.func118.trans (congrArg some (by kernel_rfl))
 f318 := Tryd.func120.trans (congrArg some (by kernel_rfl))
 f319 := Tryd.func121.trans (congrArg some (by kernel_rfl))
 f320 := Tryd.func122.trans (congrArg some (by kernel_rfl))
 f337 := Tryd.func123.trans (congrArg some (by kernel_rfl))
 f338 := Tryd.func124.trans (congrArg some (by kernel_rfl))
 t0 := Tryd.underlying0
 a0 := Tryd.isAgg0
 z0 := Tryd.sizeOf0
 v0 := Tryd.zeroValue0
 t2 := Tryd.underlying2
 a2 := Tryd.isAgg2
 z2 := Tryd.sizeOf2
 v2 := Tryd.zeroValue2
 t3 := Tryd.underlying3
 a3 := Tryd.isAgg3
 z3 := Tryd.sizeOf3
 v3 := Tryd.zeroValue3
 t4 := Tryd.underlying4
 a4 := Tryd.isAgg4
 z4 := Tryd.sizeOf4
 v4 := Tryd.zeroValue4
 t5 := Tryd.underlying5
 a5 := Tryd.isAgg5
 z5 := Tryd.sizeOf5
 v5 := Tryd.zeroValue5
 t9 := Tryd.underlying9
 a9 := Tryd.isAgg9
 z9 := Tryd.sizeOf9
 v9 := Tryd.zeroValue9
 t20 := Tryd.underlying20
 a20 := Tryd.isAgg20
 z20 := Tryd.sizeOf20
 v20 := Tryd.zeroValue20
 t37 := Tryd.underlying33
 a37 := Tryd.isAgg33
 z37 := Tryd.sizeOf33
 v37 := Tryd.zeroValue33
 t46 := Tryd.underlying85
 a46 := Tryd.isAgg85
 z46 := Tryd.sizeOf85
 v46 := Tryd.zeroValue85
 t51 := Tryd.underlying128
 a51 := Tryd.isAgg128
 z51 := Tryd.sizeOf128
 v51 := Tryd.zeroValue128
 t53 := Tryd.underlying79
 a53 := Tryd.isAgg79
 z53 := Tryd.sizeOf79
 v53 := Tryd.zeroValue79
 t171 := Tryd.underlying113
 a171 := Tryd.isAgg113
 z171 := Tryd.sizeOf113
 v171 := Tryd.zeroValue113
 t173 := Tryd.underlying116
 a173 := Tryd.isAgg116
 z173 := Tryd.sizeOf116
 v173 := Tryd.zeroValue116
 t212 := Tryd.underlying132
 a212 := Tryd.isAgg132
 z212 := Tryd.sizeOf132
 v212 := Tryd.zeroValue132
 t213 := Tryd.underlying133
 a213 := Tryd.isAgg133
 z213 := Tryd.sizeOf133
 t232 := Tryd.underlying137
 a232 := Tryd.isAgg137
 z232 := Tryd.sizeOf137
 v232 := Tryd.zeroValue137
 t233 := Tryd.underlying138
 a233 := Tryd.isAgg138
 z233 := Tryd.sizeOf138
 v233 := Tryd.zeroValue138
 g17 := by kernel_rfl
 g18 := by kernel_rfl
 g19 := by kernel_rfl
 i0 := by kernel_rfl
 i2 := by kernel_rfl
 i3 := by kernel_rfl
 i4 := by kernel_rfl
 i5 := by kernel_rfl
 i9 := by kernel_rfl
 i20 := by kernel_rfl
 i37 := by kernel_rfl
 i46 := by kernel_rfl
 i51 := by kernel_rfl
 i53 := by kernel_rfl
 i171 := by kernel_rfl
 i173 := by kernel_rfl
 i212 := by kernel_rfl
 i232 := by kernel_rfl
 i233 := by kernel_rfl
 m17 := by kernel_rfl
 m18 := by kernel_rfl
 m19 := by kernel_rfl }
open Go.RowKit Go.Sort Go.Lib in
theorem Tryd.strconv_FormatInt_10 (n : Int) (h0 : -9223372036854775808 ≤ n) (h1 : n ≤ 9223372036854775807) (w : World) (htab : Lib.TabIs Tryd.prog w "internal/strconv.uint64pow10" .u64 Lib.pow10Tab) :
  Calls Tryd.prog 79 #[.int .i64 n, .int .i64 10] w fun e w' => e = .returned (.string ⟨(Lib.itoa n).toArray⟩) ∧ ∃ k os, w' = grow (w.drewN k) os := Any.strconv_FormatInt_10 Tryd.laysM173 n h0 h1 w htab
def Tryd.lays144_ren : Go.Shelf.Ren := ⟨fun | 144 => 76 | 143 => 73 | 219 => 93 | 217 => 102 | 225 => 103 | 224 => 104 | 267 => 105 | 266 => 116 | 314 => 117 | n => n, fun | 9 => 9 | 4 => 4 | 3 => 3 | 5 => 5 | 46 => 85 | 146 => 129 | 51 => 128 | n => n, fun | 1 => 0 | n => n⟩
theorem Tryd.lays144 : Go.Proofs.Lays.n144 Tryd.prog Tryd.lays144_ren := {
 mixed := by kernel_rfl
 f143 := Tryd.func73.trans (congrArg some (by kernel_rfl))
 f144 := Tryd.func76.trans (congrArg some (by kernel_rfl))
 f217 := Tryd.func102.trans (congrArg some (by kernel_rfl))
 f219 := Tryd.func93.trans (congrArg some (by kernel_rfl))
 f224 := Tryd.func104.trans (congrArg some (by kernel_rfl))
 f225 := Tryd.func103.trans (congrArg some (by kernel_rfl))
 f266 := Tryd.func116.trans (congrArg some (by kernel_rfl))
 f267 := Tryd.func105.trans (congrArg some (by kernel_rfl))
 f314 := Tryd.func117.trans (congrArg some (by kernel_rfl))
 t3 := Tryd.underlying3
 a3 := Tryd.isAgg3
 z3 := Tryd.sizeOf3
 v3 := Tryd.zeroValue3
 t4 := Tryd.underlying4
 a4 := Tryd.isAgg4
 z4 := Tryd.sizeOf4
 v4 := Tryd.zeroValue4
 t5 := Tryd.underlying5
 a5 := Tryd.isAgg5
 z5 := Tryd.sizeOf5
 v5 := Tryd.zeroValue5
 t9 := Tryd.underlying9
 a9 := Tryd.isAgg9
 z9 := Tryd.sizeOf9
 v9 := Tryd.zeroValue9
 t46 := Tryd.underlying85
 a46 := Tryd.isAgg85
 z46 := Tryd.sizeOf85
 v46 := Tryd.zeroValue85
 t51 := Tryd.underlying128
 a51 := Tryd.isAgg128
 z51 := Tryd.sizeOf128
 v51 := Tryd.zeroValue128
 t146 := Tryd.underlying129
 a146 := Tryd.isAgg129
 z146 := Tryd.sizeOf129
 v146 := Tryd.zeroValue129
 g1 := by kernel_rfl }
open Go.RowKit Go.Lib in
theorem Tryd.strings_Contains_one (s : ByteArray) (c : UInt8) (w : World) :
  Calls Tryd.prog 76 #[.string s, .string ⟨#[c]⟩] w fun e w' => e = .returned (.bool (decide (0 ≤ Lib.indexByte s.data.toList c))) ∧ w' = w := Any.strings_Contains_one Tryd.lays144 s c w
open Go.RowKit Go.Lib in
theorem Tryd.strings_Contains (s sub : ByteArray) (m : Int) (w : World) (hs : s.size < 4294967281) (hm : w.cell? ⟨0, 0, none⟩ = some (.int .i64 m)) :
  Calls Tryd.prog 76 #[.string s, .string sub] w fun e w' => e = .returned (.bool (Lib.contains s.data.toList sub.data.toList)) ∧ w' = w := Any.strings_Contains Tryd.lays144 s sub m w hs hm
def Tryd.laysM219_ren : Go.Shelf.Ren := ⟨fun | 219 => 93 | 217 => 102 | 225 => 103 | 224 => 104 | 267 => 105 | 266 => 116 | 314 => 117 | n => n, fun | 9 => 9 | 3 => 3 | 4 => 4 | 5 => 5 | 46 => 85 | 146 => 129 | 51 => 128 | n => n, fun | 1 => 0 | n => n⟩
theorem Tryd.laysM219 : Go.Proofs.LaysM.n219 Tryd.prog Tryd.laysM219_ren := {
 mixed := by kernel_rfl
 f217 := Tryd.func102.trans (congrArg some (by kernel_rfl))
 f219 := Tryd.func93.trans (congrArg some (by kernel_rfl))
 f224 := Tryd.func104.trans (congrArg some (by kernel_rfl))
 f225 := Tryd.func103.trans (congrArg some (by kernel_rfl))
 f266 := Tryd.func116.trans (congrArg some (by kernel_rfl))
 f267 := Tryd.func105.trans (congrArg some (by kernel_rfl))
 f314 := Tryd.func117.trans (congrArg some (by kernel_rfl))
 t3 := Tryd.underlying3
 a3 := Tryd.isAgg3
 z3 := Tryd.sizeOf3
 v3 := Tryd.zeroValue3
 t4 := Tryd.underlying4
 a4 := Tryd.isAgg4
 z4 := Tryd.sizeOf4
 v4 := Tryd.zeroValue4
 t5 := Tryd.underlying5
 a5 := Tryd.isAgg5
 z5 := Tryd.sizeOf5
 v5 := Tryd.zeroValue5
 t9 := Tryd.underlying9
 a9 := Tryd.isAgg9
 z9 := Tryd.sizeOf9
 v9 := Tryd.zeroValue9
 t46 := Tryd.underlying85
 a46 := Tryd.isAgg85
 z46 := Tryd.sizeOf85
 v46 := Tryd.zeroValue85
 t51 := Tryd.underlying128
 a51 := Tryd.isAgg128
 z51 := Tryd.sizeOf128
 v51 := Tryd.zeroValue128
 t146 := Tryd.underlying129
 a146 := Tryd.isAgg129
 z146 := Tryd.sizeOf129
 v146 := Tryd.zeroValue129
 g1 := by kernel_rfl
 i3 := by kernel_rfl
 i4 := by kernel_rfl
 i5 := by kernel_rfl
 i9 := by kernel_rfl
 i46 := by kernel_rfl
 i51 := by kernel_rfl
 i146 := by kernel_rfl
 m1 := by kernel_rfl
 s1_3 := fun w h => Go.Proofs.cell_of_shapedOpen_int (zero := #[.int .i64 0]) (t := 3) h (of_decide_eq_true (by kernel_rfl)) (by kernel_rfl) rfl (by kernel_rfl) (by kernel_rfl) Tryd.underlying3 }
def Tryd.lays206_ren : Go.Shelf.Ren := ⟨fun | 206 => 78 | n => n, fun | 9 => 9 | 4 => 4 | 3 => 3 | n => n, fun | n => n⟩
theorem Tryd.lays206 : Go.Proofs.Lays.n206 Tryd.prog Tryd.lays206_ren := {
 mixed := by kernel_rfl
 f206 := Tryd.func78.trans (congrArg some (by kernel_rfl))
 t3 := Tryd.underlying3
 a3 := Tryd.isAgg3
 z3 := Tryd.sizeOf3
 v3 := Tryd.zeroValue3
 t4 := Tryd.underlying4
 a4 := Tryd.isAgg4
 z4 := Tryd.sizeOf4
 v4 := Tryd.zeroValue4
 t9 := Tryd.underlying9
 a9 := Tryd.isAgg9
 z9 := Tryd.sizeOf9
 v9 := Tryd.zeroValue9 }
open Go.RowKit Go.Lib in
theorem Tryd.stringslite_HasPrefix (s p : ByteArray) (w : World) :
  Calls Tryd.prog 78 #[.string s, .string p] w fun e w' => e = .returned (.bool (Lib.hasPrefix s.data.toList p.data.toList)) ∧ w' = w := Any.stringslite_HasPrefix Tryd.lays206 s p w
def Tryd.lays99_ren : Go.Shelf.Ren := ⟨fun | 99 => 58 | 206 => 78 | n => n, fun | 9 => 9 | 4 => 4 | 3 => 3 | n => n, fun | n => n⟩
theorem Tryd.lays99 : Go.Proofs.Lays.n99 Tryd.prog Tryd.lays99_ren := {
 mixed := by kernel_rfl
 f99 := Tryd.func58.trans (congrArg some (by kernel_rfl))
 f206 := Tryd.func78.trans (congrArg some (by kernel_rfl))
 t3 := Tryd.underlying3
 a3 := Tryd.isAgg3
 z3 := Tryd.sizeOf3
 v3 := Tryd.zeroValue3
 t4 := Tryd.underlying4
 a4 := Tryd.isAgg4
 z4 := Tryd.sizeOf4
 v4 := Tryd.zeroValue4
 t9 := Tryd.underlying9
 a9 := Tryd.isAgg9
 z9 := Tryd.sizeOf9
 v9 := Tryd.zeroValue9 }
open Go.RowKit Go.Lib in
theorem Tryd.strings_HasPrefix (s p : ByteArray) (w : World) :
  Calls Tryd.prog 58 #[.string s, .string p] w fun e w' => e = .returned (.bool (Lib.hasPrefix s.data.toList p.data.toList)) ∧ w' = w := Any.strings_HasPrefix Tryd.lays99 s p w
def Tryd.lays207_ren : Go.Shelf.Ren := ⟨fun | 207 => 56 | n => n, fun | 9 => 9 | 4 => 4 | 3 => 3 | n => n, fun | n => n⟩
theorem Tryd.lays207 : Go.Proofs.Lays.n207 Tryd.prog Tryd.lays207_ren := {
 mixed := by kernel_rfl
 f207 := Tryd.func56.trans (congrArg some (by kernel_rfl))
 t3 := Tryd.underlying3
 a3 := Tryd.isAgg3
 z3 := Tryd.sizeOf3
 v3 := Tryd.zeroValue3
 t4 := Tryd.underlying4
 a4 := Tryd.isAgg4
 z4 := Tryd.sizeOf4
 v4 := Tryd.zeroValue4
 t9 := Tryd.underlying9
 a9 := Tryd.isAgg9
 z9 := Tryd.sizeOf9
 v9 := Tryd.zeroValue9 }
open Go.RowKit Go.Lib in
theorem Tryd.stringslite_HasSuffix (s p : ByteArray) (w : World) (hs : s.size ≤ 9223372036854775807) :
  Calls Tryd.prog 56 #[.string s, .string p] w fun e w' => e = .returned (.bool (Lib.hasSuffix s.data.toList p.data.toList)) ∧ w' = w := Any.stringslite_HasSuffix Tryd.lays207 s p w hs
def Tryd.lays100_ren : Go.Shelf.Ren := ⟨fun | 100 => 32 | 207 => 56 | n => n, fun | 9 => 9 | 4 => 4 | 3 => 3 | n => n, fun | n => n⟩
theorem Tryd.lays100 : Go.Proofs.Lays.n100 Tryd.prog Tryd.lays100_ren := {
 mixed := by kernel_rfl
 f100 := Tryd.func32.trans (congrArg some (by kernel_rfl))
 f207 := Tryd.func56.trans (congrArg some (by kernel_rfl))
 t3 := Tryd.underlying3
 a3 := Tryd.isAgg3
 z3 := Tryd.sizeOf3
 v3 := Tryd.zeroValue3
 t4 := Tryd.underlying4
 a4 := Tryd.isAgg4
 z4 := Tryd.sizeOf4
 v4 := Tryd.zeroValue4
 t9 := Tryd.underlying9
 a9 := Tryd.isAgg9
 z9 := Tryd.sizeOf9
 v9 := Tryd.zeroValue9 }
open Go.RowKit Go.Lib in
theorem Tryd.strings_HasSuffix (s p : ByteArray) (w : World) (hs : s.size ≤ 9223372036854775807) :
  Calls Tryd.prog 32 #[.string s, .string p] w fun e w' => e = .returned (.bool (Lib.hasSuffix s.data.toList p.data.toList)) ∧ w' = w := Any.strings_HasSuffix Tryd.lays100 s p w hs
def Tryd.lays146_ren : Go.Shelf.Ren := ⟨fun | 146 => 28 | 221 => 50 | 268 => 71 | 138 => 72 | 143 => 73 | 195 => 90 | 197 => 91 | 218 => 92 | 219 => 93 | 260 => 101 | 217 => 102 | 225 => 103 | 224 => 104 | 267 => 105 | 266 => 116 | 314 => 117 | n => n, fun | 9 => 9 | 31 => 39 | 3 => 3 | 4 => 4 | 0 => 0 | 105 => 102 | 21 => 21 | 5 => 5 | 46 => 85 | 119 => 124 | 139 => 127 | 138 => 126 | 146 => 129 | 51 => 128 | n => n, fun | 1 => 0 | 3 => 1 | 4 => 2 | n => n⟩
theorem Tryd.lays146 : Go.Proofs.Lays.n146 Tryd.prog Tryd.lays146_ren := {
 mixed := by kernel_rfl
 f138 := Tryd.func72.trans (congrArg some (by kernel_rfl))
 f143 := Tryd.func73.trans (congrArg some (by kernel_rfl))
 f146 := Tryd.func28.trans (congrArg some (by kernel_rfl))
 f195 := Tryd.func90.trans (congrArg some (by kernel_rfl))
 f197 := Tryd.func91.trans (congrArg some (by kernel_rfl))
 f217 := Tryd.func102.trans (congrArg some (by kernel_rfl))
 f218 := Tryd.func92.trans (congrArg some (by kernel_rfl))
 f219 := Tryd.func93.trans (congrArg some (by kernel_rfl))
 f221 := Tryd.func50.trans (congrArg some (by kernel_rfl))
 f224 := Tryd.func104.trans (congrArg some (by kernel_rfl))
 f225 := Tryd.func103.trans (congrArg some (by kernel_rfl))
 f260 := Tryd.func101.trans (congrArg some (by kernel_rfl))
 f266 := Tryd.func116.trans (congrArg some (by kernel_rfl))
 f267 := Tryd.func105.trans (congrArg some (by kernel_rfl))
 f268 := Tryd.func71.trans (congrArg some (by kernel_rfl))
 f314 := Tryd.func117.trans (congrArg some (by kernel_rfl))
 t0 := Tryd.underlying0
 a0 := Tryd.isAgg0
 z0 := Tryd.sizeOf0
 v0 := Tryd.zeroValue0
 t3 := Tryd.underlying3
 a3 := Tryd.isAgg3
 z3 := Tryd.sizeOf3
 v3 := Tryd.zeroValue3
 t4 := Tryd.underlying4
 a4 := Tryd.isAgg4
 z4 := Tryd.sizeOf4
 v4 := Tryd.zeroValue4
 t5 := Tryd.underlying5
 a5 := Tryd.isAgg5
 z5 := Tryd.sizeOf5
 v5 := Tryd.zeroValue5
 t9 := Tryd.underlying9
 a9 := Tryd.isAgg9
 z9 := Tryd.sizeOf9
 v9 := Tryd.zeroValue9
 t21 := Tryd.underlying21
 a21 := Tryd.isAgg21
 z21 := Tryd.sizeOf21
 v21 := Tryd.zeroValue21
 t31 := Tryd.underlying39
 a31 := Tryd.isAgg39
 z31 := Tryd.sizeOf39
 v31 := Tryd.zeroValue39
 t46 := Tryd.underlying85
 a46 := Tryd.isAgg85
 z46 := Tryd.sizeOf85
 v46 := Tryd.zeroValue85
 t51 := Tryd.underlying128
 a51 := Tryd.isAgg128
 z51 := Tryd.sizeOf128
 v51 := Tryd.zeroValue128
 t105 := Tryd.underlying102
 a105 := Tryd.isAgg102
 z105 := Tryd.sizeOf102
 v105 := Tryd.zeroValue102
 t119 := Tryd.underlying124
 a119 := Tryd.isAgg124
 z119 := Tryd.sizeOf124
 t138 := Tryd.underlying126
 a138 := Tryd.isAgg126
 z138 := Tryd.sizeOf126
 v138 := Tryd.zeroValue126
 t139 := Tryd.underlying127
 a139 := Tryd.isAgg127
 z139 := Tryd.sizeOf127
 v139 := Tryd.zeroValue127
 t146 := Tryd.underlying129
 a146 := Tryd.isAgg129
 z146 := Tryd.sizeOf129
 v146 := Tryd.zeroValue129
 g1 := by kernel_rfl
 g3 := by kernel_rfl
 g4 := by kernel_rfl }
open Go.RowKit Go.Lib in
theorem Tryd.strings_Split (s sep : ByteArray) (m : Int) (w : World) (hs : s.size < 4294967281) (hm : w.cell? ⟨0, 0, none⟩ = some (.int .i64 m)) (h1 : 1 ≤ sep.size) :
  Calls Tryd.prog 28 #[.string s, .string sep] w fun e w' =>
   e = .returned (.slice (some ⟨w.heap.size, 0, none⟩) (Lib.countB s sep + 1) (Lib.countB s sep + 1)) ∧ w' = w.alloc (.cells ((Lib.splitB sep 0 (Lib.countB s sep) s).map Value.string).toArray 9) := Any.strings_Split Tryd.lays146 (by kernel_rfl) s sep m w hs hm h1
def Tryd.lays147_ren : Go.Shelf.Ren := ⟨fun | 147 => 52 | 221 => 50 | 268 => 71 | 138 => 72 | 143 => 73 | 195 => 90 | 197 => 91 | 218 => 92 | 219 => 93 | 260 => 101 | 217 => 102 | 225 => 103 | 224 => 104 | 267 => 105 | 266 => 116 | 314 => 117 | n => n, fun | 9 => 9 | 3 => 3 | 31 => 39 | 4 => 4 | 0 => 0 | 105 => 102 | 21 => 21 | 5 => 5 | 46 => 85 | 119 => 124 | 139 => 127 | 138 => 126 | 146 => 129 | 51 => 128 | n => n, fun | 1 => 0 | 3 => 1 | 4 => 2 | n => n⟩
theorem Tryd.lays147 : Go.Proofs.Lays.n147 Tryd.prog Tryd.lays147_ren := {
 mixed := by kernel_rfl
 f138 := Tryd.func72.trans (congrArg some (by kernel_rfl))
 f143 := Tryd.func73.trans (congrArg some (by kernel_rfl))
 f147 := Tryd.func52.trans (congrArg some (by kernel_rfl))
 f195 := Tryd.func90.trans (congrArg some (by kernel_rfl))
 f197 := Tryd.func91.trans (congrArg some (by kernel_rfl))
 f217 := Tryd.func102.trans (congrArg some (by kernel_rfl))
 f218 := Tryd.func92.trans (congrArg some (by kernel_rfl))
 f219 := Tryd.func93.trans (congrArg some (by kernel_rfl))
 f221 := Tryd.func50.trans (congrArg some (by kernel_rfl))
 f224 := Tryd.func104.trans (congrArg some (by kernel_rfl))
 f225 := Tryd.func103.trans (congrArg some (by kernel_rfl))
 f260 := Tryd.func101.trans (congrArg some (by kernel_rfl))
 f266 := Tryd.func116.trans (congrArg some (by kernel_rfl))
 f267 := Tryd.func105.trans (congrArg some (by kernel_rfl))
 f268 := Tryd.func71.trans (congrArg some (by kernel_rfl))
 f314 := Tryd.func117.trans (congrArg some (by kernel_rfl))
 t0 := Tryd.underlying0
 a0 := Tryd.isAgg0
 z0 := Tryd.sizeOf0
 v0 := Tryd.zeroValue0
 t3 := Tryd.underlying3
 a3 := Tryd.isAgg3
 z3 := Tryd.sizeOf3
 v3 := Tryd.zeroValue3
 t4 := Tryd.underlying4
 a4 := Tryd.isAgg4
 z4 := Tryd.sizeOf4
 v4 := Tryd.zeroValue4
 t5 := Tryd.underlying5
 a5 := Tryd.isAgg5
 z5 := Tryd.sizeOf5
 v5 := Tryd.zeroValue5
 t9 := Tryd.underlying9
 a9 := Tryd.isAgg9
 z9 := Tryd.sizeOf9
 v9 := Tryd.zeroValue9
 t21 := Tryd.underlying21
 a21 := Tryd.isAgg21
 z21 := Tryd.sizeOf21
 v21 := Tryd.zeroValue21
 t31 := Tryd.underlying39
 a31 := Tryd.isAgg39
 z31 := Tryd.sizeOf39
 v31 := Tryd.zeroValue39
 t46 := Tryd.underlying85
 a46 := Tryd.isAgg85
 z46 := Tryd.sizeOf85
 v46 := Tryd.zeroValue85
 t51 := Tryd.underlying128
 a51 := Tryd.isAgg128
 z51 := Tryd.sizeOf128
 v51 := Tryd.zeroValue128
 t105 := Tryd.underlying102
 a105 := Tryd.isAgg102
 z105 := Tryd.sizeOf102
 v105 := Tryd.zeroValue102
 t119 := Tryd.underlying124
 a119 := Tryd.isAgg124
 z119 := Tryd.sizeOf124
 t138 := Tryd.underlying126
 a138 := Tryd.isAgg126
 z138 := Tryd.sizeOf126
 v138 := Tryd.zeroValue126
 t139 := Tryd.underlying127
 a139 := Tryd.isAgg127
 z139 := Tryd.sizeOf127
 v139 := Tryd.zeroValue127
 t146 := Tryd.underlying129
 a146 := Tryd.isAgg129
 z146 := Tryd.sizeOf129
 v146 := Tryd.zeroValue129
 g1 := by kernel_rfl
 g3 := by kernel_rfl
 g4 := by kernel_rfl }
open Go.RowKit Go.Lib in
theorem Tryd.strings_SplitN (s sep : ByteArray) (n : Nat) (m : Int) (w : World) (hs : s.size < 4294967281) (hm : w.cell? ⟨0, 0, none⟩ = some (.int .i64 m)) (h1 : 1 ≤ sep.size) (hn : 1 ≤ n) (hn63 : n ≤ 9223372036854775807) :
  Calls Tryd.prog 52 #[.string s, .string sep, .int .i64 n] w fun e w' =>
   e = .returned (.slice (some ⟨w.heap.size, 0, none⟩) (Lib.splitB sep 0 (min n (s.size + 1) - 1) s).length (min n (s.size + 1))) ∧ w' = w.alloc (.cells (Lib.cellsOf (Lib.splitB sep 0 (min n (s.size + 1) - 1) s) (min n (s.size + 1))) 9) := Any.strings_SplitN Tryd.lays147 (by kernel_rfl) s sep n m w hs hm h1 hn hn63
end Go.Proofs
namespace Go.Proofs.YtjebkmfljcanlaaDoor.Q
open Go Go.RowKit
def Tab_ (w : World) : Prop := (Lib.TabIs Tryd.prog w "internal/strconv.uint64pow10" .u64 Lib.pow10Tab) ∧ (∃ m : Int, w.cell? ⟨0, 0, none⟩ = some (.int .i64 m))
theorem bx_ {w w' : World} (h : Tab_ w) (hb : Below w.heap.size w w') : Tab_ w' := by
 obtain ⟨h1, h2⟩ := h
 refine ⟨?_, ?_⟩
 ·have h3 := h1
  unfold Lib.TabIs World.var? at h3
  obtain ⟨g, hg, h4⟩ := Option.bind_eq_some_iff.1 h3
  refine var?_below hb hg ?_ h1
  split at h4
  ·rename_i hh
   exact (Array.getElem?_eq_some_iff.1 hh).1
  ·cases h4
 ·obtain ⟨m, hm⟩ := h2
  exact ⟨m, (hb.cell (bl_ w _ hm)).trans hm⟩
end Go.Proofs.YtjebkmfljcanlaaDoor.Q
namespace Go.Proofs.YtjebkmfljcanlaaDoor.Q
open Go.RowKit Go.Proofs.YtjebkmfljcanlaaDoorW.PrintWords Go.Proofs.YtjebkmfljcanlaaDoorW.PrintLast Go.Proofs.YtjebkmfljcanlaaDoorW.PrintMore
attribute [local go_sem] aL_ aN_ aT_ aU_ aF_ aE_ aK_ aM_
def strings_Split.f (a0 : ByteArray) (a1 : ByteArray) : Option (List ByteArray) := if a0.size < 4294967281 ∧ 1 ≤ a1.size then some (Go.Lib.splitB a1 0 (Go.Lib.countB a0 a1) a0) else none
theorem strings_Split.calls (a0 : ByteArray) (a1 : ByteArray) (r : List ByteArray) (w : World) (hTab_ : Tab_ w) (h : strings_Split.f a0 a1 = some r) :
  Calls Tryd.prog 28 #[.string a0, .string a1] w fun e w' => ∃ v0_ : Value, e = .returned (v0_) ∧ Kd.R Kd.string 9 w' w.heap.size (fun _ => True) v0_ r ∧ Below w.heap.size w w' := by
 unfold strings_Split.f at h
 split at h
 case isFalse => cases h
 rename_i hc
 obtain ⟨hs, h1⟩ := hc
 obtain rfl := Option.some.inj h
 obtain ⟨m, hm⟩ := hTab_.2
 refine (Go.Proofs.Tryd.strings_Split a0 a1 m w hs hm h1).mono ?_
 rintro e w' ⟨rfl, rfl⟩
 have hlen := Go.Lib.splitB_all a1 h1 0 (Go.Lib.countB a0 a1) a0 rfl
 obtain ⟨l, hl⟩ : ∃ l, l = Go.Lib.splitB a1 0 (Go.Lib.countB a0 a1) a0 := ⟨_, rfl⟩
 rw [← hl] at hlen ⊢
 have hsz : Go.Lib.countB a0 a1 + 1 = l.length := hlen.symm
 rw [hsz]
 have hll : l.length ≤ 9223372036854775807 := by
  have := Go.Lib.countB_le a1 h1 a0.size a0 (Nat.le_refl _)
  omega
 refine ⟨_, rfl, ⟨fun _ _ => trivial, l.map Value.string, ?_, ?_⟩, bA_ (Below.refl _ _) _⟩
 ·have h2 := World.ownsRow_lit (base := w.heap.size) (e := 9) (size := Kd.string.sz) w (l.map Value.string).toArray l.length (Nat.le_refl _) (by simpa [maxLen] using hll) (by show _ = l.length * 1; simp)
  simpa using h2
 ·refine ⟨by show _ = l.length * 1; simp, fun j p hj => ?_⟩
  show ((l.map Value.string).drop (j * 1)).take 1 = [Value.string p]
  obtain ⟨hj1, hj2⟩ := List.getElem?_eq_some_iff.1 hj
  rw [Nat.mul_one, ← List.map_drop, ← List.map_take, List.drop_eq_getElem_cons hj1, List.take_succ_cons, List.take_zero, hj2]
  rfl
def be_.f (a0 : Int) (a1 : Int) : Option (ByteArray) := if a1 = 10 ∧ -9223372036854775808 ≤ a0 ∧ a0 ≤ 9223372036854775807 then some (⟨(Go.Lib.itoa a0).toArray⟩ : ByteArray) else none
theorem be_.calls (a0 : Int) (a1 : Int) (r : ByteArray) (w : World) (hTab_ : Tab_ w) (h : be_.f a0 a1 = some r) :
  Calls Tryd.prog 79 #[.int .i64 a0, .int .i64 a1] w fun e w' => e = .returned (.string r) ∧ Below w.heap.size w w' := by
 unfold be_.f at h
 split at h
 case isFalse => cases h
 rename_i hc
 obtain ⟨rfl, h0, h1⟩ := hc
 obtain rfl := Option.some.inj h
 refine (Go.Proofs.Tryd.strconv_FormatInt_10 a0 h0 h1 w hTab_.1).mono ?_
 rintro e w' ⟨rfl, k, os, rfl⟩
 exact ⟨rfl, Go.Lib.below_grow _ _ (Nat.le_refl _) _ _⟩
def bj_.f (a0 : Int) : Option (ByteArray) := (be_.f a0 10).bind fun t101 => (some t101)
set_option maxHeartbeats 8000000 in
set_option maxRecDepth 100000 in
theorem bj_.calls (a0 : Int) (r : ByteArray) (w : World) (hTab_ : Tab_ w) (h : bj_.f a0 = some r) :
  Calls Tryd.prog 59 #[.int .i64 a0] w fun e w' => e = .returned (.string r) ∧ Below w.heap.size w w' := by
 have HTab_ := Aside0.mk hTab_
 clear hTab_
 have HB := Aside0.mk (Below.refl w.heap.size w)
 have H : ((be_.f a0 10).bind fun t101 => (some t101)) = some r := h
 clear h
 replace H := Option.bind_eq_some_iff.mp H
 obtain ⟨t101, A20, H⟩ := H
 (try dsimp only at H)
 have A2 := Aside0.mk A20
 clear A20
 obtain rfl := Option.some.inj H
 go_enter Tryd.func59, Tryd.ntmps59
 go_wp2_with (first | ((with_reducible refine as_ (f := 79) rfl ?_); refine aY_ (some 4) rfl rfl Tryd.func79 (by kernel_rfl) rfl #[.int .i64 a0, .int .i64 10] rfl (by first | rfl | (simp only [List.map_toArray, List.map_cons, List.map_nil]; first | done | rfl)) ?_; (with_reducible refine (be_.calls a0 10 t101 _ ?side1 A2.out).mono ?_); (case side1 => exact bx_ HTab_.out (bz HB.out)); rintro e w3 ⟨rfl, hb⟩; refine ⟨_, rfl, ?_⟩; replace HB := Aside0.mk (au_ (bz HB.out) hb); (try clear hb)))
 go_ret
 exact ⟨by first | rfl | (simp [*, ap_, aq_] <;> rfl), bz HB.out⟩
def bg_.f (a0 : Int) (a1 : Int) (a2 : Int) : Option (Bool) := if a0 ≥ a1 then (some (decide (a0 ≤ a2))) else (some false)
set_option maxHeartbeats 8000000 in
set_option maxRecDepth 100000 in
theorem bg_.calls (a0 : Int) (a1 : Int) (a2 : Int) (r : Bool) (w : World) (h : bg_.f a0 a1 a2 = some r) :
  Calls Tryd.prog 35 #[.int .i64 a0, .int .i64 a1, .int .i64 a2] w fun e w' => e = .returned (.bool r) ∧ ah_ w w' := by
 have H : (if a0 ≥ a1 then (some (decide (a0 ≤ a2))) else (some false)) = some r := h
 clear h
 by_cases c4 : a0 ≥ a1
 rotate_left
 ·rw [if_neg c4] at H
  have c4b0 : decide (a1 ≤ a0) = false := decide_eq_false c4
  clear c4
  obtain rfl := Option.some.inj H
  go_enter Tryd.func35, Tryd.ntmps35
  go_wp2
  go_ret
  exact ⟨by first | rfl | (simp; done) | (simp [*]; done), by repeat (first | exact ah_.refl _ | apply ah_.step)⟩
 rw [if_pos c4] at H
 have c4b0 : decide (a1 ≤ a0) = true := decide_eq_true c4
 clear c4
 obtain rfl := Option.some.inj H
 go_enter Tryd.func35, Tryd.ntmps35
 go_wp2
 go_ret
 exact ⟨by first | rfl | (simp; done) | (simp [*]; done), by repeat (first | exact ah_.refl _ | apply ah_.step)⟩
mutual
def aO_.l0 : Nat → ByteArray → Int → Int → Option (Int)
 | 0, _, _, _ => none
 | k + 1, x0, x5, x6 => if x6 < (x0.size : Int) then (if 0 ≤ x6 then (aO_.l1 k x0 (Go.bits .xor .i64 x5 (wrap64 ((wrap64 (bt x0 x6)) * 256))) x6 0) else (none)) else (some x5)
def aO_.l1 : Nat → ByteArray → Int → Int → Int → Option (Int)
 | 0, _, _, _, _ => none
 | k + 1, x0, x5, x6, x7 => if x7 < 8 then (if (wrap64 (x5 * 2)) > 65535 then (aO_.l1 k x0 (Go.bits .xor .i64 (Go.bits .and .i64 (wrap64 (x5 * 2)) 65535) 4129) x6 (wrap64 (x7 + 1))) else (aO_.l1 k x0 (wrap64 (x5 * 2)) x6 (wrap64 (x7 + 1)))) else (aO_.l0 k x0 x5 (wrap64 (x6 + 1)))
end
def aO_.f (k : Nat) (a0 : ByteArray) (a1 : Int) : Option (Int) := (bg_.f a1 0 65535).bind fun t101 => (if t101 = true then (aO_.l0 k a0 a1 0) else (some 0))
set_option maxHeartbeats 8000000 in
set_option maxRecDepth 100000 in
theorem aO_.calls (k : Nat) (a0 : ByteArray) (a1 : Int) (r : Int) (w : World) (h : aO_.f k a0 a1 = some r) :
  Calls Tryd.prog 74 #[.string a0, .int .i64 a1] w fun e w' => e = .returned (.int .i64 r) ∧ ah_ w w' := by
 have H : ((bg_.f a1 0 65535).bind fun t101 => (if t101 = true then (aO_.l0 k a0 a1 0) else (some 0))) = some r := h
 clear h
 replace H := Option.bind_eq_some_iff.mp H
 obtain ⟨t101, A30, H⟩ := H
 (try dsimp only at H)
 have A3 := Aside0.mk A30
 clear A30
 have HC4 := Aside0.mk H
 clear H
 go_enter Tryd.func74, Tryd.ntmps74
 go_upto_if 10 with (first | ((with_reducible refine as_ (f := 35) rfl ?_); refine aY_ (some 9) rfl rfl Tryd.func35 (by kernel_rfl) rfl #[.int .i64 a1, .int .i64 0, .int .i64 65535] rfl (by first | rfl | (simp only [List.map_toArray, List.map_cons, List.map_nil]; first | done | rfl)) ?_; (with_reducible refine (bg_.calls a1 0 65535 t101 _ A3.out).mono ?_); rintro e w' ⟨rfl, ⟨nd, rfl⟩⟩; refine ⟨_, rfl, ?_⟩))
 (try simp only [Act.put, lsa_, ls0_, ls1_])
 have H := HC4.out
 clear HC4
 by_cases c5 : t101 = true
 rotate_left
 ·replace c5 := Bool.eq_false_iff.mpr c5
  subst c5
  have H1 : (some 0) = some r := by rw [if_neg (show ¬ (false = true) by decide)] at H; exact H
  clear H
  have H := H1
  clear H1
  obtain rfl := Option.some.inj H
  go_wp2
  go_ret
  exact ⟨by first | rfl | (simp; done) | (simp [*]; done), by repeat (first | exact ah_.refl _ | apply ah_.step)⟩
 subst c5
 have H1 : (aO_.l0 k a0 a1 0) = some r := by rw [if_pos rfl] at H; exact H
 clear H
 have H := H1
 clear H1
 have H' := Aside0.mk H
 clear H
 go_wp2
 (try simp only [Act.put, lsa_, ls0_, ls1_])
 go_loopg [5, 6] k (fun kq v5 v6 w' => ∃ (x5_1 : Int) (x6_1 : Int), v5 = .int .i64 x5_1 ∧ v6 = .int .i64 x6_1 ∧ Aside0 (aO_.l0 kq a0 x5_1 x6_1 = some r) ∧ Aside0 (kq ≤ k) ∧ ah_ w w')
 case atStart => exact ⟨(a1), (0), (by first | rfl | (simp; done) | (simp [*]; done)), (by first | rfl | (simp; done) | (simp [*]; done)), H', ⟨Nat.le_refl _⟩, by repeat (first | exact ah_.refl _ | apply ah_.step)⟩
 case round =>
  clear H'
  obtain ⟨x5_1, x6_1, rfl, rfl, HA, HK1, ⟨m1, rfl⟩⟩ := hrel
  cases gk with
  | zero => exact absurd HA.out (by simp [aO_.l0])
  | succ k1 =>
   have H := HA.out
   clear HA
   simp only [aO_.l0] at H
   by_cases c6 : x6_1 < (a0.size : Int)
   rotate_left
   ·rw [if_neg c6] at H
    have c6b0 : decide (x6_1 < (a0.size : Int)) = false := decide_eq_false c6
    clear c6
    (first | rw [c6b0] | (simp only [i64_w, i32_w]; rw [c6b0]) | (simp only [c6b1, Bool.not_true, Bool.not_false]) | (simp only [c6b0, Bool.not_true, Bool.not_false]) | skip)
    obtain rfl := Option.some.inj H
    go_wp2
    go_ret
    exact ⟨by first | rfl | (simp; done) | (simp [*]; done), by repeat (first | exact ah_.refl _ | apply ah_.step)⟩
   rw [if_pos c6] at H
   have c6b0 : decide (x6_1 < (a0.size : Int)) = true := decide_eq_true c6
   clear c6
   (first | rw [c6b0] | (simp only [i64_w, i32_w]; rw [c6b0]) | (simp only [c6b1, Bool.not_true, Bool.not_false]) | (simp only [c6b0, Bool.not_true, Bool.not_false]) | skip)
   by_cases c7 : 0 ≤ x6_1
   rotate_left
   ·rw [if_neg c7] at H
    exact absurd H (by simp)
   rw [if_pos c7] at H
   have c7b0 : decide (0 ≤ x6_1) = true := decide_eq_true c7
   clear c7
   have H' := Aside0.mk H
   clear H
   have p8 : 0 ≤ (x6_1 : Int) := of_decide_eq_true (by assumption)
   have q8 : x6_1 < (a0.size : Int) := of_decide_eq_true (by assumption)
   have hx8 := bt_at a0 x6_1
   replace p8 := eq_true p8
   replace q8 := eq_true q8
   go_wp2
   (try simp only [Act.put, lsa_, ls0_, ls1_])
   go_loopg [5, 7] k1 (fun kq v5 v7 w' => ∃ (x5_2 : Int) (x7_2 : Int), v5 = .int .i64 x5_2 ∧ v7 = .int .i64 x7_2 ∧ Aside0 (aO_.l1 kq a0 x5_2 x6_1 x7_2 = some r) ∧ Aside0 (kq ≤ k1) ∧ ah_ w w')
   case atStart => exact ⟨(Go.bits .xor .i64 x5_1 (wrap64 ((wrap64 (bt a0 x6_1)) * 256))), (0), (by first | rfl | (simp; done) | (simp [*]; done)), (by first | rfl | (simp; done) | (simp [*]; done)), H', ⟨Nat.le_refl _⟩, by repeat (first | exact ah_.refl _ | apply ah_.step)⟩
   case round =>
    clear H'
    obtain ⟨x5_2, x7_2, rfl, rfl, HA, HK2, ⟨m2, rfl⟩⟩ := hrel
    cases gk with
    | zero => exact absurd HA.out (by simp [aO_.l1])
    | succ k2 =>
     have H := HA.out
     clear HA
     simp only [aO_.l1] at H
     by_cases c9 : x7_2 < 8
     rotate_left
     ·rw [if_neg c9] at H
      have c9b0 : decide (x7_2 < 8) = false := decide_eq_false c9
      clear c9
      have H' := Aside0.mk H
      clear H
      go_wp2
      go_roundg k2
      case measure => have := HK1.out; have := HK2.out; omega
      case rel => exact ⟨(x5_2), (wrap64 (x6_1 + 1)), (by first | rfl | (simp; done) | (simp [*]; done)), (by first | rfl | (simp; done) | (simp [*]; done)), H', ⟨by have := HK1.out; have := HK2.out; omega⟩, by repeat (first | exact ah_.refl _ | apply ah_.step)⟩
     rw [if_pos c9] at H
     have c9b0 : decide (x7_2 < 8) = true := decide_eq_true c9
     clear c9
     by_cases c10 : (wrap64 (x5_2 * 2)) > 65535
     rotate_left
     ·rw [if_neg c10] at H
      have c10b0 : decide (65535 < (wrap64 (x5_2 * 2))) = false := decide_eq_false c10
      clear c10
      have H' := Aside0.mk H
      clear H
      go_wp2
      go_roundg k2
      case measure => have := HK1.out; have := HK2.out; omega
      case rel => exact ⟨(wrap64 (x5_2 * 2)), (wrap64 (x7_2 + 1)), (by first | rfl | (simp; done) | (simp [*]; done)), (by first | rfl | (simp; done) | (simp [*]; done)), H', ⟨by have := HK1.out; have := HK2.out; omega⟩, by repeat (first | exact ah_.refl _ | apply ah_.step)⟩
     rw [if_pos c10] at H
     have c10b0 : decide (65535 < (wrap64 (x5_2 * 2))) = true := decide_eq_true c10
     clear c10
     have H' := Aside0.mk H
     clear H
     go_wp2
     go_roundg k2
     case measure => have := HK1.out; have := HK2.out; omega
     case rel => exact ⟨(Go.bits .xor .i64 (Go.bits .and .i64 (wrap64 (x5_2 * 2)) 65535) 4129), (wrap64 (x7_2 + 1)), (by first | rfl | (simp; done) | (simp [*]; done)), (by first | rfl | (simp; done) | (simp [*]; done)), H', ⟨by have := HK1.out; have := HK2.out; omega⟩, by repeat (first | exact ah_.refl _ | apply ah_.step)⟩
def bf_.f (k : Nat) (a0 : ByteArray) : Option (ByteArray) := (aO_.f k a0 65535).bind fun t101 => ((bj_.f t101).bind fun t102 => (if 0 ≤ (t102.size : Int) then (if (t102.size : Int) ≤ 5 then (if ((⟨#[48, 48, 48, 48, 48]⟩ : ByteArray).extract ((t102.size : Int) : Int).toNat (⟨#[48, 48, 48, 48, 48]⟩ : ByteArray).size).size + t102.size ≤ 9223372036854775807 then (some (((⟨#[48, 48, 48, 48, 48]⟩ : ByteArray).extract ((t102.size : Int) : Int).toNat (⟨#[48, 48, 48, 48, 48]⟩ : ByteArray).size) ++ t102)) else (none)) else (none)) else (none)))
set_option maxHeartbeats 8000000 in
set_option maxRecDepth 100000 in
theorem bf_.calls (k : Nat) (a0 : ByteArray) (r : ByteArray) (w : World) (hTab_ : Tab_ w) (h : bf_.f k a0 = some r) :
  Calls Tryd.prog 51 #[.string a0] w fun e w' => e = .returned (.string r) ∧ Below w.heap.size w w' := by
 have HTab_ := Aside0.mk hTab_
 clear hTab_
 have HB := Aside0.mk (Below.refl w.heap.size w)
 have H : ((aO_.f k a0 65535).bind fun t101 => ((bj_.f t101).bind fun t102 => (if 0 ≤ (t102.size : Int) then (if (t102.size : Int) ≤ 5 then (if ((⟨#[48, 48, 48, 48, 48]⟩ : ByteArray).extract ((t102.size : Int) : Int).toNat (⟨#[48, 48, 48, 48, 48]⟩ : ByteArray).size).size + t102.size ≤ 9223372036854775807 then (some (((⟨#[48, 48, 48, 48, 48]⟩ : ByteArray).extract ((t102.size : Int) : Int).toNat (⟨#[48, 48, 48, 48, 48]⟩ : ByteArray).size) ++ t102)) else (none)) else (none)) else (none)))) = some r := h
 clear h
 replace H := Option.bind_eq_some_iff.mp H
 obtain ⟨t101, A20, H⟩ := H
 (try dsimp only at H)
 have A2 := Aside0.mk A20
 clear A20
 replace H := Option.bind_eq_some_iff.mp H
 obtain ⟨t102, A30, H⟩ := H
 (try dsimp only at H)
 have A3 := Aside0.mk A30
 clear A30
 by_cases c4 : 0 ≤ (t102.size : Int)
 rotate_left
 ·rw [if_neg c4] at H
  exact absurd H (by simp)
 rw [if_pos c4] at H
 have c4b0 := eq_true c4
 have c4b1 : decide (0 ≤ (t102.size : Int)) = true := decide_eq_true c4
 clear c4
 by_cases c5 : (t102.size : Int) ≤ 5
 rotate_left
 ·rw [if_neg c5] at H
  exact absurd H (by simp)
 rw [if_pos c5] at H
 have c5b0 := eq_true c5
 have c5b1 : decide ((t102.size : Int) ≤ 5) = true := decide_eq_true c5
 clear c5
 by_cases c6 : ((⟨#[48, 48, 48, 48, 48]⟩ : ByteArray).extract ((t102.size : Int) : Int).toNat (⟨#[48, 48, 48, 48, 48]⟩ : ByteArray).size).size + t102.size ≤ 9223372036854775807
 rotate_left
 ·rw [if_neg c6] at H
  exact absurd H (by simp)
 rw [if_pos c6] at H
 have c6b0 := eq_true c6
 have c6b1 : decide (((⟨#[48, 48, 48, 48, 48]⟩ : ByteArray).extract ((t102.size : Int) : Int).toNat (⟨#[48, 48, 48, 48, 48]⟩ : ByteArray).size).size + t102.size ≤ 9223372036854775807) = true := decide_eq_true c6
 try have c6b2 : (9223372036854775807 < ((⟨#[48, 48, 48, 48, 48]⟩ : ByteArray).extract ((t102.size : Int) : Int).toNat (⟨#[48, 48, 48, 48, 48]⟩ : ByteArray).size).size + t102.size) = False := eq_false (Nat.not_lt.2 c6)
 obtain rfl := Option.some.inj H
 go_enter Tryd.func51, Tryd.ntmps51
 go_wp2_with (first | ((with_reducible refine as_ (f := 74) rfl ?_); refine aY_ (some 5) rfl rfl Tryd.func74 (by kernel_rfl) rfl #[.string a0, .int .i64 65535] rfl (by first | rfl | (simp only [List.map_toArray, List.map_cons, List.map_nil]; first | done | rfl)) ?_; (with_reducible refine (aO_.calls k a0 65535 t101 _ A2.out).mono ?_); rintro e w' ⟨rfl, ⟨nd, rfl⟩⟩; refine ⟨_, rfl, ?_⟩) | ((with_reducible refine as_ (f := 59) rfl ?_); refine aY_ (some 6) rfl rfl Tryd.func59 (by kernel_rfl) rfl #[.int .i64 t101] rfl (by first | rfl | (simp only [List.map_toArray, List.map_cons, List.map_nil]; first | done | rfl)) ?_; (with_reducible refine (bj_.calls t101 t102 _ ?side1 A3.out).mono ?_); (case side1 => exact bx_ HTab_.out (bz HB.out)); rintro e w7 ⟨rfl, hb⟩; refine ⟨_, rfl, ?_⟩; replace HB := Aside0.mk (au_ (bz HB.out) hb); (try clear hb)))
 go_ret
 exact ⟨by first | rfl | (simp [*, ap_, aq_] <;> rfl), bz HB.out⟩
def strings_SplitN.f (a0 : ByteArray) (a1 : ByteArray) (a2 : Int) : Option (List ByteArray) := if a0.size < 4294967281 ∧ 1 ≤ a1.size ∧ 1 ≤ a2 ∧ a2 ≤ 9223372036854775807 then some (Go.Lib.splitB a1 0 (min a2.toNat (a0.size + 1) - 1) a0) else none
theorem strings_SplitN.len (sep : ByteArray) (save : Nat) : ∀ (k : Nat) (s : ByteArray), (Go.Lib.splitB sep save k s).length ≤ k + 1
 | 0, s => by simp [Go.Lib.splitB]
 | k + 1, s => by
  unfold Go.Lib.splitB
  split
  ·simp
  ·have := strings_SplitN.len sep save k (s.extract ((Go.Lib.indexB s sep).toNat + sep.size) s.size)
   rw [List.length_cons]
   omega
theorem strings_SplitN.calls (a0 : ByteArray) (a1 : ByteArray) (a2 : Int) (r : List ByteArray) (w : World) (hTab_ : Tab_ w) (h : strings_SplitN.f a0 a1 a2 = some r) :
  Calls Tryd.prog 52 #[.string a0, .string a1, .int .i64 a2] w fun e w' => ∃ v0_ : Value, e = .returned (v0_) ∧ Kd.R Kd.string 9 w' w.heap.size (fun _ => True) v0_ r ∧ Below w.heap.size w w' := by
 unfold strings_SplitN.f at h
 split at h
 case isFalse => cases h
 rename_i hc
 obtain ⟨hs, h1, h2, h3⟩ := hc
 obtain rfl := Option.some.inj h
 obtain ⟨n, rfl⟩ := Int.eq_ofNat_of_zero_le (show 0 ≤ a2 by omega)
 obtain ⟨m, hm⟩ := hTab_.2
 rw [Int.toNat_natCast]
 refine (Go.Proofs.Tryd.strings_SplitN a0 a1 n m w hs hm h1 (by omega) (by omega)).mono ?_
 rintro e w' ⟨rfl, rfl⟩
 have hlen := strings_SplitN.len a1 0 (min n (a0.size + 1) - 1) a0
 obtain ⟨l, hl⟩ : ∃ l, l = Go.Lib.splitB a1 0 (min n (a0.size + 1) - 1) a0 := ⟨_, rfl⟩
 obtain ⟨c, hc⟩ : ∃ c, c = min n (a0.size + 1) := ⟨_, rfl⟩
 rw [← hc] at hl hlen
 rw [← hc, ← hl]
 rw [← hl] at hlen
 have hc1 : 1 ≤ c := by omega
 have hcm : c ≤ 9223372036854775807 := by omega
 have hlc : l.length ≤ c := by omega
 have hsz : (Go.Lib.cellsOf l c).size = c := by simp [Go.Lib.cellsOf]; omega
 refine ⟨_, rfl, ⟨fun _ _ => trivial, l.map Value.string, ⟨by show _ = l.length * 1; simp, .inr ⟨w.heap.size, c, Go.Lib.cellsOf l c, rfl, Nat.le_refl _, heap_alloc_new w _, hlc, by simpa [maxLen] using hcm, by show _ = c * 1; rw [hsz]; omega, ?_⟩⟩, ?_⟩, bA_ (Below.refl _ _) _⟩
 ·show (Go.Lib.cellsOf l c).toList.take (l.length * 1) = _
  rw [Nat.mul_one]
  simp [Go.Lib.cellsOf]
 ·refine ⟨by show _ = l.length * 1; simp, fun j p hj => ?_⟩
  show ((l.map Value.string).drop (j * 1)).take 1 = [Value.string p]
  obtain ⟨hj1, hj2⟩ := List.getElem?_eq_some_iff.1 hj
  rw [Nat.mul_one, ← List.map_drop, ← List.map_take, List.drop_eq_getElem_cons hj1, List.take_succ_cons, List.take_zero, hj2]
  rfl
mutual
def ar_.j0 : Nat → ByteArray → Bool → Option (Bool)
 | 0, _, _ => none
 | k + 1, x0, x21 => if x21 = true then (some false) else (ar_.l0 k x0 0)
def ar_.l0 : Nat → ByteArray → Int → Option (Bool)
 | 0, _, _ => none
 | k + 1, x0, x3 => if x3 < (x0.size : Int) then (if 0 ≤ x3 then (if (bt x0 x3) < 97 then (if (bt x0 x3) < 48 then (some false) else (if (bt x0 x3) > 57 then (some false) else (ar_.l0 k x0 (wrap64 (x3 + 1))))) else (if (bt x0 x3) > 122 then (if (bt x0 x3) < 48 then (some false) else (if (bt x0 x3) > 57 then (some false) else (ar_.l0 k x0 (wrap64 (x3 + 1))))) else (ar_.l0 k x0 (wrap64 (x3 + 1))))) else (none)) else (some true)
end
def ar_.f (k : Nat) (a0 : ByteArray) : Option (Bool) := if (a0.size : Int) < 1 then (ar_.j0 k a0 true) else (if (a0.size : Int) > 10 then (ar_.j0 k a0 true) else (if 0 < (a0.size : Int) then (if (bt a0 0) < 97 then (ar_.j0 k a0 true) else (ar_.j0 k a0 (decide ((bt a0 0) > 122)))) else (none)))
set_option maxHeartbeats 8000000 in
set_option maxRecDepth 100000 in
theorem ar_.calls (k : Nat) (a0 : ByteArray) (r : Bool) (w : World) (h : ar_.f k a0 = some r) :
  Calls Tryd.prog 75 #[.string a0] w fun e w' => e = .returned (.bool r) ∧ ah_ w w' := by
 have H : (if (a0.size : Int) < 1 then (ar_.j0 k a0 true) else (if (a0.size : Int) > 10 then (ar_.j0 k a0 true) else (if 0 < (a0.size : Int) then (if (bt a0 0) < 97 then (ar_.j0 k a0 true) else (ar_.j0 k a0 (decide ((bt a0 0) > 122)))) else (none)))) = some r := h
 clear h
 have HC2 := Aside0.mk H
 clear H
 go_enter Tryd.func75, Tryd.ntmps75
 go_upto_region 1 with (fail)
 go_cut [21] (fun v21 wc => ∃ (kq : Nat) (x21_1 : Bool), v21 = .bool x21_1 ∧ Aside0 (ar_.j0 kq a0 x21_1 = some r) ∧ Aside0 (kq ≤ k) ∧ ah_ w wc)
 case first =>
  have H := HC2.out
  clear HC2
  by_cases c3 : (a0.size : Int) < 1
  rotate_left
  ·rw [if_neg c3] at H
   have c3b0 : decide ((a0.size : Int) < 1) = false := decide_eq_false c3
   have c3b1 : decide (a0.size < 1) = false := decide_eq_false (by omega)
   clear c3
   (first | rw [c3b0] | (simp only [i64_w, i32_w]; rw [c3b0]) | (simp only [c3b1, Bool.not_true, Bool.not_false]) | (simp only [c3b0, Bool.not_true, Bool.not_false]) | skip)
   by_cases c4 : (a0.size : Int) > 10
   rotate_left
   ·rw [if_neg c4] at H
    have c4b0 : decide (10 < (a0.size : Int)) = false := decide_eq_false c4
    have c4b1 : decide (10 < a0.size) = false := decide_eq_false (by omega)
    clear c4
    by_cases c5 : 0 < (a0.size : Int)
    rotate_left
    ·rw [if_neg c5] at H
     exact absurd H (by simp)
    rw [if_pos c5] at H
    have c5b0 : decide (0 < (a0.size : Int)) = true := decide_eq_true c5
    have c5b1 : decide (0 < a0.size) = true := decide_eq_true (by omega)
    clear c5
    by_cases c7 : (bt a0 0) < 97
    rotate_left
    ·rw [if_neg c7] at H
     have c7b0 : decide ((bt a0 0) < 97) = false := decide_eq_false c7
     clear c7
     have H' := Aside0.mk H
     clear H
     have p6 : 0 ≤ (0 : Int) := (by omega)
     have q6 : 0 < a0.size := (by have : (0 : Int) < (a0.size : Int) := of_decide_eq_true (by assumption); omega)
     have hx6 : ∀ h : 0 < a0.size, ((a0[0]'h).toNat : Int) = bt a0 0 := bt_at a0 0
     clear p6
     have qi6 : (0 < (a0.size : Int)) = True := eq_true (of_decide_eq_true (by assumption))
     replace q6 := eq_true q6
     have p8 : 0 ≤ (0 : Int) := (by omega)
     have q8 : 0 < a0.size := (by have : (0 : Int) < (a0.size : Int) := of_decide_eq_true (by assumption); omega)
     have hx8 : ∀ h : 0 < a0.size, ((a0[0]'h).toNat : Int) = bt a0 0 := bt_at a0 0
     clear p8
     have qi8 : (0 < (a0.size : Int)) = True := eq_true (of_decide_eq_true (by assumption))
     replace q8 := eq_true q8
     go_wp2
     go_meet
     case rel => exact ⟨_, (decide ((bt a0 0) > 122)), (by first | rfl | (simp; done) | (simp [*]; done)), H', ⟨by first | omega | exact Nat.le_refl _⟩, by repeat (first | exact ah_.refl _ | apply ah_.step)⟩
    rw [if_pos c7] at H
    have c7b0 : decide ((bt a0 0) < 97) = true := decide_eq_true c7
    clear c7
    have H' := Aside0.mk H
    clear H
    have p6 : 0 ≤ (0 : Int) := (by omega)
    have q6 : 0 < a0.size := (by have : (0 : Int) < (a0.size : Int) := of_decide_eq_true (by assumption); omega)
    have hx6 : ∀ h : 0 < a0.size, ((a0[0]'h).toNat : Int) = bt a0 0 := bt_at a0 0
    clear p6
    have qi6 : (0 < (a0.size : Int)) = True := eq_true (of_decide_eq_true (by assumption))
    replace q6 := eq_true q6
    go_wp2
    go_meet
    case rel => exact ⟨_, (true), (by first | rfl | (simp; done) | (simp [*]; done)), H', ⟨by first | omega | exact Nat.le_refl _⟩, by repeat (first | exact ah_.refl _ | apply ah_.step)⟩
   rw [if_pos c4] at H
   have c4b0 : decide (10 < (a0.size : Int)) = true := decide_eq_true c4
   have c4b1 : decide (10 < a0.size) = true := decide_eq_true (by omega)
   clear c4
   have H' := Aside0.mk H
   clear H
   go_wp2
   go_meet
   case rel => exact ⟨_, (true), (by first | rfl | (simp; done) | (simp [*]; done)), H', ⟨by first | omega | exact Nat.le_refl _⟩, by repeat (first | exact ah_.refl _ | apply ah_.step)⟩
  rw [if_pos c3] at H
  have c3b0 : decide ((a0.size : Int) < 1) = true := decide_eq_true c3
  have c3b1 : decide (a0.size < 1) = true := decide_eq_true (by omega)
  clear c3
  (first | rw [c3b0] | (simp only [i64_w, i32_w]; rw [c3b0]) | (simp only [c3b1, Bool.not_true, Bool.not_false]) | (simp only [c3b0, Bool.not_true, Bool.not_false]) | skip)
  have H' := Aside0.mk H
  clear H
  go_wp2
  go_meet
  case rel => exact ⟨_, (true), (by first | rfl | (simp; done) | (simp [*]; done)), H', ⟨by first | omega | exact Nat.le_refl _⟩, by repeat (first | exact ah_.refl _ | apply ah_.step)⟩
 case rest =>
  clear HC2
  obtain ⟨kq, x21_1, rfl, HA, HJ1, ⟨mc1, rfl⟩⟩ := hcut
  cases kq with
  | zero => exact absurd HA.out (by simp [ar_.j0])
  | succ kj1 =>
   have H := HA.out
   clear HA
   simp only [ar_.j0] at H
   by_cases c9 : x21_1 = true
   rotate_left
   ·replace c9 := Bool.eq_false_iff.mpr c9
    subst c9
    have H1 : (ar_.l0 kj1 a0 0) = some r := by rw [if_neg (show ¬ (false = true) by decide)] at H; exact H
    clear H
    have H := H1
    clear H1
    have H' := Aside0.mk H
    clear H
    go_wp2
    (try simp only [Act.put, lsa_, ls0_, ls1_])
    go_loopg [3] kj1 (fun kq v3 w' => ∃ (x3_2 : Int), v3 = .int .i64 x3_2 ∧ Aside0 (ar_.l0 kq a0 x3_2 = some r) ∧ Aside0 (kq ≤ kj1) ∧ ah_ w w')
    case atStart => exact ⟨(0), (by first | rfl | (simp; done) | (simp [*]; done)), H', ⟨Nat.le_refl _⟩, by repeat (first | exact ah_.refl _ | apply ah_.step)⟩
    case round =>
     clear H'
     obtain ⟨x3_2, rfl, HA, HK2, ⟨m2, rfl⟩⟩ := hrel
     cases gk with
     | zero => exact absurd HA.out (by simp [ar_.l0])
     | succ k2 =>
      have H := HA.out
      clear HA
      simp only [ar_.l0] at H
      by_cases c10 : x3_2 < (a0.size : Int)
      rotate_left
      ·rw [if_neg c10] at H
       have c10b0 : decide (x3_2 < (a0.size : Int)) = false := decide_eq_false c10
       clear c10
       obtain rfl := Option.some.inj H
       go_wp2
       go_ret
       exact ⟨by first | rfl | (simp; done) | (simp [*]; done), by repeat (first | exact ah_.refl _ | apply ah_.step)⟩
      rw [if_pos c10] at H
      have c10b0 : decide (x3_2 < (a0.size : Int)) = true := decide_eq_true c10
      clear c10
      by_cases c11 : 0 ≤ x3_2
      rotate_left
      ·rw [if_neg c11] at H
       exact absurd H (by simp)
      rw [if_pos c11] at H
      have c11b0 : decide (0 ≤ x3_2) = true := decide_eq_true c11
      clear c11
      by_cases c13 : (bt a0 x3_2) < 97
      rotate_left
      ·rw [if_neg c13] at H
       have c13b0 : decide ((bt a0 x3_2) < 97) = false := decide_eq_false c13
       clear c13
       by_cases c19 : (bt a0 x3_2) > 122
       rotate_left
       ·rw [if_neg c19] at H
        have c19b0 : decide (122 < (bt a0 x3_2)) = false := decide_eq_false c19
        clear c19
        have H' := Aside0.mk H
        clear H
        have p12 : 0 ≤ (x3_2 : Int) := of_decide_eq_true (by assumption)
        have q12 : x3_2 < (a0.size : Int) := of_decide_eq_true (by assumption)
        have hx12 := bt_at a0 x3_2
        replace p12 := eq_true p12
        replace q12 := eq_true q12
        have p18 : 0 ≤ (x3_2 : Int) := of_decide_eq_true (by assumption)
        have q18 : x3_2 < (a0.size : Int) := of_decide_eq_true (by assumption)
        have hx18 := bt_at a0 x3_2
        replace p18 := eq_true p18
        replace q18 := eq_true q18
        go_wp2
        go_roundg k2
        case measure => have := HJ1.out; have := HK2.out; omega
        case rel => exact ⟨(wrap64 (x3_2 + 1)), (by first | rfl | (simp; done) | (simp [*]; done)), H', ⟨by have := HJ1.out; have := HK2.out; omega⟩, by repeat (first | exact ah_.refl _ | apply ah_.step)⟩
       rw [if_pos c19] at H
       have c19b0 : decide (122 < (bt a0 x3_2)) = true := decide_eq_true c19
       clear c19
       by_cases c21 : (bt a0 x3_2) < 48
       rotate_left
       ·rw [if_neg c21] at H
        have c21b0 : decide ((bt a0 x3_2) < 48) = false := decide_eq_false c21
        clear c21
        by_cases c23 : (bt a0 x3_2) > 57
        rotate_left
        ·rw [if_neg c23] at H
         have c23b0 : decide (57 < (bt a0 x3_2)) = false := decide_eq_false c23
         clear c23
         have H' := Aside0.mk H
         clear H
         have p12 : 0 ≤ (x3_2 : Int) := of_decide_eq_true (by assumption)
         have q12 : x3_2 < (a0.size : Int) := of_decide_eq_true (by assumption)
         have hx12 := bt_at a0 x3_2
         replace p12 := eq_true p12
         replace q12 := eq_true q12
         have p18 : 0 ≤ (x3_2 : Int) := of_decide_eq_true (by assumption)
         have q18 : x3_2 < (a0.size : Int) := of_decide_eq_true (by assumption)
         have hx18 := bt_at a0 x3_2
         replace p18 := eq_true p18
         replace q18 := eq_true q18
         have p20 : 0 ≤ (x3_2 : Int) := of_decide_eq_true (by assumption)
         have q20 : x3_2 < (a0.size : Int) := of_decide_eq_true (by assumption)
         have hx20 := bt_at a0 x3_2
         replace p20 := eq_true p20
         replace q20 := eq_true q20
         have p22 : 0 ≤ (x3_2 : Int) := of_decide_eq_true (by assumption)
         have q22 : x3_2 < (a0.size : Int) := of_decide_eq_true (by assumption)
         have hx22 := bt_at a0 x3_2
         replace p22 := eq_true p22
         replace q22 := eq_true q22
         go_wp2
         go_roundg k2
         case measure => have := HJ1.out; have := HK2.out; omega
         case rel => exact ⟨(wrap64 (x3_2 + 1)), (by first | rfl | (simp; done) | (simp [*]; done)), H', ⟨by have := HJ1.out; have := HK2.out; omega⟩, by repeat (first | exact ah_.refl _ | apply ah_.step)⟩
        rw [if_pos c23] at H
        have c23b0 : decide (57 < (bt a0 x3_2)) = true := decide_eq_true c23
        clear c23
        obtain rfl := Option.some.inj H
        have p12 : 0 ≤ (x3_2 : Int) := of_decide_eq_true (by assumption)
        have q12 : x3_2 < (a0.size : Int) := of_decide_eq_true (by assumption)
        have hx12 := bt_at a0 x3_2
        replace p12 := eq_true p12
        replace q12 := eq_true q12
        have p18 : 0 ≤ (x3_2 : Int) := of_decide_eq_true (by assumption)
        have q18 : x3_2 < (a0.size : Int) := of_decide_eq_true (by assumption)
        have hx18 := bt_at a0 x3_2
        replace p18 := eq_true p18
        replace q18 := eq_true q18
        have p20 : 0 ≤ (x3_2 : Int) := of_decide_eq_true (by assumption)
        have q20 : x3_2 < (a0.size : Int) := of_decide_eq_true (by assumption)
        have hx20 := bt_at a0 x3_2
        replace p20 := eq_true p20
        replace q20 := eq_true q20
        have p22 : 0 ≤ (x3_2 : Int) := of_decide_eq_true (by assumption)
        have q22 : x3_2 < (a0.size : Int) := of_decide_eq_true (by assumption)
        have hx22 := bt_at a0 x3_2
        replace p22 := eq_true p22
        replace q22 := eq_true q22
        go_wp2
        go_ret
        exact ⟨by first | rfl | (simp; done) | (simp [*]; done), by repeat (first | exact ah_.refl _ | apply ah_.step)⟩
       rw [if_pos c21] at H
       have c21b0 : decide ((bt a0 x3_2) < 48) = true := decide_eq_true c21
       clear c21
       obtain rfl := Option.some.inj H
       have p12 : 0 ≤ (x3_2 : Int) := of_decide_eq_true (by assumption)
       have q12 : x3_2 < (a0.size : Int) := of_decide_eq_true (by assumption)
       have hx12 := bt_at a0 x3_2
       replace p12 := eq_true p12
       replace q12 := eq_true q12
       have p18 : 0 ≤ (x3_2 : Int) := of_decide_eq_true (by assumption)
       have q18 : x3_2 < (a0.size : Int) := of_decide_eq_true (by assumption)
       have hx18 := bt_at a0 x3_2
       replace p18 := eq_true p18
       replace q18 := eq_true q18
       have p20 : 0 ≤ (x3_2 : Int) := of_decide_eq_true (by assumption)
       have q20 : x3_2 < (a0.size : Int) := of_decide_eq_true (by assumption)
       have hx20 := bt_at a0 x3_2
       replace p20 := eq_true p20
       replace q20 := eq_true q20
       go_wp2
       go_ret
       exact ⟨by first | rfl | (simp; done) | (simp [*]; done), by repeat (first | exact ah_.refl _ | apply ah_.step)⟩
      rw [if_pos c13] at H
      have c13b0 : decide ((bt a0 x3_2) < 97) = true := decide_eq_true c13
      clear c13
      by_cases c15 : (bt a0 x3_2) < 48
      rotate_left
      ·rw [if_neg c15] at H
       have c15b0 : decide ((bt a0 x3_2) < 48) = false := decide_eq_false c15
       clear c15
       by_cases c17 : (bt a0 x3_2) > 57
       rotate_left
       ·rw [if_neg c17] at H
        have c17b0 : decide (57 < (bt a0 x3_2)) = false := decide_eq_false c17
        clear c17
        have H' := Aside0.mk H
        clear H
        have p12 : 0 ≤ (x3_2 : Int) := of_decide_eq_true (by assumption)
        have q12 : x3_2 < (a0.size : Int) := of_decide_eq_true (by assumption)
        have hx12 := bt_at a0 x3_2
        replace p12 := eq_true p12
        replace q12 := eq_true q12
        have p14 : 0 ≤ (x3_2 : Int) := of_decide_eq_true (by assumption)
        have q14 : x3_2 < (a0.size : Int) := of_decide_eq_true (by assumption)
        have hx14 := bt_at a0 x3_2
        replace p14 := eq_true p14
        replace q14 := eq_true q14
        have p16 : 0 ≤ (x3_2 : Int) := of_decide_eq_true (by assumption)
        have q16 : x3_2 < (a0.size : Int) := of_decide_eq_true (by assumption)
        have hx16 := bt_at a0 x3_2
        replace p16 := eq_true p16
        replace q16 := eq_true q16
        go_wp2
        go_roundg k2
        case measure => have := HJ1.out; have := HK2.out; omega
        case rel => exact ⟨(wrap64 (x3_2 + 1)), (by first | rfl | (simp; done) | (simp [*]; done)), H', ⟨by have := HJ1.out; have := HK2.out; omega⟩, by repeat (first | exact ah_.refl _ | apply ah_.step)⟩
       rw [if_pos c17] at H
       have c17b0 : decide (57 < (bt a0 x3_2)) = true := decide_eq_true c17
       clear c17
       obtain rfl := Option.some.inj H
       have p12 : 0 ≤ (x3_2 : Int) := of_decide_eq_true (by assumption)
       have q12 : x3_2 < (a0.size : Int) := of_decide_eq_true (by assumption)
       have hx12 := bt_at a0 x3_2
       replace p12 := eq_true p12
       replace q12 := eq_true q12
       have p14 : 0 ≤ (x3_2 : Int) := of_decide_eq_true (by assumption)
       have q14 : x3_2 < (a0.size : Int) := of_decide_eq_true (by assumption)
       have hx14 := bt_at a0 x3_2
       replace p14 := eq_true p14
       replace q14 := eq_true q14
       have p16 : 0 ≤ (x3_2 : Int) := of_decide_eq_true (by assumption)
       have q16 : x3_2 < (a0.size : Int) := of_decide_eq_true (by assumption)
       have hx16 := bt_at a0 x3_2
       replace p16 := eq_true p16
       replace q16 := eq_true q16
       go_wp2
       go_ret
       exact ⟨by first | rfl | (simp; done) | (simp [*]; done), by repeat (first | exact ah_.refl _ | apply ah_.step)⟩
      rw [if_pos c15] at H
      have c15b0 : decide ((bt a0 x3_2) < 48) = true := decide_eq_true c15
      clear c15
      obtain rfl := Option.some.inj H
      have p12 : 0 ≤ (x3_2 : Int) := of_decide_eq_true (by assumption)
      have q12 : x3_2 < (a0.size : Int) := of_decide_eq_true (by assumption)
      have hx12 := bt_at a0 x3_2
      replace p12 := eq_true p12
      replace q12 := eq_true q12
      have p14 : 0 ≤ (x3_2 : Int) := of_decide_eq_true (by assumption)
      have q14 : x3_2 < (a0.size : Int) := of_decide_eq_true (by assumption)
      have hx14 := bt_at a0 x3_2
      replace p14 := eq_true p14
      replace q14 := eq_true q14
      go_wp2
      go_ret
      exact ⟨by first | rfl | (simp; done) | (simp [*]; done), by repeat (first | exact ah_.refl _ | apply ah_.step)⟩
   subst c9
   have H1 : (some false) = some r := by rw [if_pos rfl] at H; exact H
   clear H
   have H := H1
   clear H1
   obtain rfl := Option.some.inj H
   go_wp2
   go_ret
   exact ⟨by first | rfl | (simp; done) | (simp [*]; done), by repeat (first | exact ah_.refl _ | apply ah_.step)⟩
def strings_Contains.f (a0 : ByteArray) (a1 : ByteArray) : Option (Bool) := match a1.data.toList with
 | [c] => some (decide (0 ≤ Go.Lib.indexByte a0.data.toList c))
 | _ => none
theorem strings_Contains.calls (a0 : ByteArray) (a1 : ByteArray) (r : Bool) (w : World) (h : strings_Contains.f a0 a1 = some r) :
  Calls Tryd.prog 76 #[.string a0, .string a1] w fun e w' => e = .returned (.bool r) ∧ ah_ w w' := by
 obtain ⟨d⟩ := a1
 obtain ⟨l⟩ := d
 match l, h with
 | [c], h =>
  obtain rfl := Option.some.inj h
  refine (Go.Proofs.Tryd.strings_Contains_one a0 c w).mono ?_
  rintro e w' ⟨rfl, rfl⟩
  exact ⟨rfl, ah_.refl _⟩
def aV_.f (k : Nat) (a0_0 : ByteArray) (a0_1 : ByteArray) (a0_2 : ByteArray) : Option (Bool) := (ar_.f k a0_0).bind fun t102 => (if t102 = true then ((ar_.f k a0_1).bind fun t103 => (if t103 = true then (if (a0_2.size : Int) ≤ 400 then ((strings_Contains.f a0_2 (⟨#[10]⟩ : ByteArray)).bind fun t104 => (some (!t104))) else (some false)) else (some false))) else (some false))
set_option maxHeartbeats 8000000 in
set_option maxRecDepth 100000 in
theorem aV_.calls (k : Nat) (a0_0 : ByteArray) (a0_1 : ByteArray) (a0_2 : ByteArray) (r : Bool) (w : World) (h : aV_.f k a0_0 a0_1 a0_2 = some r) :
  Calls Tryd.prog 53 #[.agg #[.string a0_0, .string a0_1, .string a0_2]] w fun e w' => e = .returned (.bool r) ∧ Below w.heap.size w w' := by
 have hu43 := Tryd.underlying43
 have HB := Aside0.mk (Below.refl w.heap.size w)
 have H : ((ar_.f k a0_0).bind fun t102 => (if t102 = true then ((ar_.f k a0_1).bind fun t103 => (if t103 = true then (if (a0_2.size : Int) ≤ 400 then ((strings_Contains.f a0_2 (⟨#[10]⟩ : ByteArray)).bind fun t104 => (some (!t104))) else (some false)) else (some false))) else (some false))) = some r := h
 clear h
 replace H := Option.bind_eq_some_iff.mp H
 obtain ⟨t102, A20, H⟩ := H
 (try dsimp only at H)
 have A2 := Aside0.mk A20
 clear A20
 by_cases c3 : t102 = true
 rotate_left
 ·replace c3 := Bool.eq_false_iff.mpr c3
  subst c3
  have H1 : (some false) = some r := by rw [if_neg (show ¬ (false = true) by decide)] at H; exact H
  clear H
  have H := H1
  clear H1
  obtain rfl := Option.some.inj H
  go_enter Tryd.func53, Tryd.ntmps53
  go_wp2_with (first | ((with_reducible refine bn_ (N := 1) rfl ?_); (try (refine bC_ (by rfl) ?_; dsimp only)); refine bs_ ?hg (N := 1) ?hd (cs := #[.string a0_0, .string a0_1, .string a0_2]) (t := 43) ?hr ?_; (case hd => rfl); (case hg => rfl); (case hr => (go_simp; try rfl)); intro gb101 hg w14 hbox hb; have BK101 := Aside0.mk (hbox); have GW101 := Aside0.mk ((by rw [hg]; exact (aw_ (bz HB.out)) : w.heap.size ≤ gb101)); have GE101 := Aside0.mk ((by rw [hg]; exact (aw_ (bz HB.out)) : w.heap.size ≤ gb101)); replace HB := Aside0.mk (au_ (bz HB.out) hb); clear hb hbox hg; have hcz15_0 : w14.cell? ⟨gb101, 0, none⟩ = some (.string a0_0) := (ai_ BK101.out 0).trans rfl; have hcz15_1 : w14.cell? ⟨gb101, 1, none⟩ = some (.string a0_1) := (ai_ BK101.out 1).trans rfl; have hcz15_2 : w14.cell? ⟨gb101, 2, none⟩ = some (.string a0_2) := (ai_ BK101.out 2).trans rfl; have hfz15_0 := ab_ BK101.out 0; have hfz15_1 := ab_ BK101.out 1; have hfz15_2 := ab_ BK101.out 2) | ((with_reducible refine as_ (f := 75) rfl ?_); refine aY_ (some 5) rfl rfl Tryd.func75 (by kernel_rfl) rfl #[.string a0_0] rfl (by first | rfl | (simp only [List.map_toArray, List.map_cons, List.map_nil]; first | done | rfl)) ?_; (with_reducible refine (ar_.calls k a0_0 false _ A2.out).mono ?_); rintro e w' ⟨rfl, ⟨nd, rfl⟩⟩; refine ⟨_, rfl, ?_⟩))
  go_ret
  exact ⟨by first | rfl | (simp [*, ap_, aq_] <;> rfl), by repeat (first | (with_reducible first | exact HB.out | apply bA_ | apply bN_ | apply bD_ | refine al_ ?_ GE101.out) | exact HB.out)⟩
 subst c3
 have H1 : ((ar_.f k a0_1).bind fun t103 => (if t103 = true then (if (a0_2.size : Int) ≤ 400 then ((strings_Contains.f a0_2 (⟨#[10]⟩ : ByteArray)).bind fun t104 => (some (!t104))) else (some false)) else (some false))) = some r := by rw [if_pos rfl] at H; exact H
 clear H
 have H := H1
 clear H1
 replace H := Option.bind_eq_some_iff.mp H
 obtain ⟨t103, A40, H⟩ := H
 (try dsimp only at H)
 have A4 := Aside0.mk A40
 clear A40
 by_cases c5 : t103 = true
 rotate_left
 ·replace c5 := Bool.eq_false_iff.mpr c5
  subst c5
  have H1 : (some false) = some r := by rw [if_neg (show ¬ (false = true) by decide)] at H; exact H
  clear H
  have H := H1
  clear H1
  obtain rfl := Option.some.inj H
  go_enter Tryd.func53, Tryd.ntmps53
  go_wp2_with (first | ((with_reducible refine bn_ (N := 1) rfl ?_); (try (refine bC_ (by rfl) ?_; dsimp only)); refine bs_ ?hg (N := 1) ?hd (cs := #[.string a0_0, .string a0_1, .string a0_2]) (t := 43) ?hr ?_; (case hd => rfl); (case hg => rfl); (case hr => (go_simp; try rfl)); intro gb101 hg w12 hbox hb; have BK101 := Aside0.mk (hbox); have GW101 := Aside0.mk ((by rw [hg]; exact (aw_ (bz HB.out)) : w.heap.size ≤ gb101)); have GE101 := Aside0.mk ((by rw [hg]; exact (aw_ (bz HB.out)) : w.heap.size ≤ gb101)); replace HB := Aside0.mk (au_ (bz HB.out) hb); clear hb hbox hg; have hcz13_0 : w12.cell? ⟨gb101, 0, none⟩ = some (.string a0_0) := (ai_ BK101.out 0).trans rfl; have hcz13_1 : w12.cell? ⟨gb101, 1, none⟩ = some (.string a0_1) := (ai_ BK101.out 1).trans rfl; have hcz13_2 : w12.cell? ⟨gb101, 2, none⟩ = some (.string a0_2) := (ai_ BK101.out 2).trans rfl; have hfz13_0 := ab_ BK101.out 0; have hfz13_1 := ab_ BK101.out 1; have hfz13_2 := ab_ BK101.out 2) | ((with_reducible refine as_ (f := 75) rfl ?_); refine aY_ (some 5) rfl rfl Tryd.func75 (by kernel_rfl) rfl #[.string a0_0] rfl (by first | rfl | (simp only [List.map_toArray, List.map_cons, List.map_nil]; first | done | rfl)) ?_; (with_reducible refine (ar_.calls k a0_0 true _ A2.out).mono ?_); rintro e w' ⟨rfl, ⟨nd, rfl⟩⟩; refine ⟨_, rfl, ?_⟩) | (go_at_call 75; (with_reducible refine (ar_.calls k a0_1 false _ A4.out).mono ?_); rintro e w' ⟨rfl, ⟨nd, rfl⟩⟩))
  go_ret
  exact ⟨by first | rfl | (simp [*, ap_, aq_] <;> rfl), by repeat (first | (with_reducible first | exact HB.out | apply bA_ | apply bN_ | apply bD_ | refine al_ ?_ GE101.out) | exact HB.out)⟩
 subst c5
 have H1 : (if (a0_2.size : Int) ≤ 400 then ((strings_Contains.f a0_2 (⟨#[10]⟩ : ByteArray)).bind fun t104 => (some (!t104))) else (some false)) = some r := by rw [if_pos rfl] at H; exact H
 clear H
 have H := H1
 clear H1
 by_cases c6 : (a0_2.size : Int) ≤ 400
 rotate_left
 ·rw [if_neg c6] at H
  have c6b0 : decide ((a0_2.size : Int) ≤ 400) = false := decide_eq_false c6
  have c6b1 : decide (a0_2.size ≤ 400) = false := decide_eq_false (by omega)
  clear c6
  obtain rfl := Option.some.inj H
  go_enter Tryd.func53, Tryd.ntmps53
  go_wp2_with (first | ((with_reducible refine bn_ (N := 1) rfl ?_); (try (refine bC_ (by rfl) ?_; dsimp only)); refine bs_ ?hg (N := 1) ?hd (cs := #[.string a0_0, .string a0_1, .string a0_2]) (t := 43) ?hr ?_; (case hd => rfl); (case hg => rfl); (case hr => (go_simp; try rfl)); intro gb101 hg w10 hbox hb; have BK101 := Aside0.mk (hbox); have GW101 := Aside0.mk ((by rw [hg]; exact (aw_ (bz HB.out)) : w.heap.size ≤ gb101)); have GE101 := Aside0.mk ((by rw [hg]; exact (aw_ (bz HB.out)) : w.heap.size ≤ gb101)); replace HB := Aside0.mk (au_ (bz HB.out) hb); clear hb hbox hg; have hcz11_0 : w10.cell? ⟨gb101, 0, none⟩ = some (.string a0_0) := (ai_ BK101.out 0).trans rfl; have hcz11_1 : w10.cell? ⟨gb101, 1, none⟩ = some (.string a0_1) := (ai_ BK101.out 1).trans rfl; have hcz11_2 : w10.cell? ⟨gb101, 2, none⟩ = some (.string a0_2) := (ai_ BK101.out 2).trans rfl; have hfz11_0 := ab_ BK101.out 0; have hfz11_1 := ab_ BK101.out 1; have hfz11_2 := ab_ BK101.out 2) | ((with_reducible refine as_ (f := 75) rfl ?_); refine aY_ (some 5) rfl rfl Tryd.func75 (by kernel_rfl) rfl #[.string a0_0] rfl (by first | rfl | (simp only [List.map_toArray, List.map_cons, List.map_nil]; first | done | rfl)) ?_; (with_reducible refine (ar_.calls k a0_0 true _ A2.out).mono ?_); rintro e w' ⟨rfl, ⟨nd, rfl⟩⟩; refine ⟨_, rfl, ?_⟩) | (go_at_call 75; (with_reducible refine (ar_.calls k a0_1 true _ A4.out).mono ?_); rintro e w' ⟨rfl, ⟨nd, rfl⟩⟩))
  go_ret
  exact ⟨by first | rfl | (simp [*, ap_, aq_] <;> rfl), by repeat (first | (with_reducible first | exact HB.out | apply bA_ | apply bN_ | apply bD_ | refine al_ ?_ GE101.out) | exact HB.out)⟩
 rw [if_pos c6] at H
 have c6b0 : decide ((a0_2.size : Int) ≤ 400) = true := decide_eq_true c6
 have c6b1 : decide (a0_2.size ≤ 400) = true := decide_eq_true (by omega)
 clear c6
 replace H := Option.bind_eq_some_iff.mp H
 obtain ⟨t104, A70, H⟩ := H
 (try dsimp only at H)
 have A7 := Aside0.mk A70
 clear A70
 obtain rfl := Option.some.inj H
 go_enter Tryd.func53, Tryd.ntmps53
 go_wp2_with (first | ((with_reducible refine bn_ (N := 1) rfl ?_); (try (refine bC_ (by rfl) ?_; dsimp only)); refine bs_ ?hg (N := 1) ?hd (cs := #[.string a0_0, .string a0_1, .string a0_2]) (t := 43) ?hr ?_; (case hd => rfl); (case hg => rfl); (case hr => (go_simp; try rfl)); intro gb101 hg w8 hbox hb; have BK101 := Aside0.mk (hbox); have GW101 := Aside0.mk ((by rw [hg]; exact (aw_ (bz HB.out)) : w.heap.size ≤ gb101)); have GE101 := Aside0.mk ((by rw [hg]; exact (aw_ (bz HB.out)) : w.heap.size ≤ gb101)); replace HB := Aside0.mk (au_ (bz HB.out) hb); clear hb hbox hg; have hcz9_0 : w8.cell? ⟨gb101, 0, none⟩ = some (.string a0_0) := (ai_ BK101.out 0).trans rfl; have hcz9_1 : w8.cell? ⟨gb101, 1, none⟩ = some (.string a0_1) := (ai_ BK101.out 1).trans rfl; have hcz9_2 : w8.cell? ⟨gb101, 2, none⟩ = some (.string a0_2) := (ai_ BK101.out 2).trans rfl; have hfz9_0 := ab_ BK101.out 0; have hfz9_1 := ab_ BK101.out 1; have hfz9_2 := ab_ BK101.out 2) | ((with_reducible refine as_ (f := 75) rfl ?_); refine aY_ (some 5) rfl rfl Tryd.func75 (by kernel_rfl) rfl #[.string a0_0] rfl (by first | rfl | (simp only [List.map_toArray, List.map_cons, List.map_nil]; first | done | rfl)) ?_; (with_reducible refine (ar_.calls k a0_0 true _ A2.out).mono ?_); rintro e w' ⟨rfl, ⟨nd, rfl⟩⟩; refine ⟨_, rfl, ?_⟩) | (go_at_call 75; (with_reducible refine (ar_.calls k a0_1 true _ A4.out).mono ?_); rintro e w' ⟨rfl, ⟨nd, rfl⟩⟩) | (go_at_call 76; (with_reducible refine (strings_Contains.calls a0_2 (⟨#[10]⟩ : ByteArray) t104 _ A7.out).mono ?_); rintro e w' ⟨rfl, ⟨nd, rfl⟩⟩))
 go_ret
 exact ⟨by first | rfl | (simp [*, ap_, aq_] <;> rfl), by repeat (first | (with_reducible first | exact HB.out | apply bA_ | apply bN_ | apply bD_ | refine al_ ?_ GE101.out) | exact HB.out)⟩
def av_.j0 : Nat → ByteArray → Bool → Option (ByteArray × ByteArray × ByteArray × Int)
 | 0, _, _ => none
 | k + 1, x0, x14 => if x14 = true then (some ((⟨#[]⟩ : ByteArray), (⟨#[]⟩ : ByteArray), (⟨#[]⟩ : ByteArray), 9)) else (if 6 ≤ (x0.size : Int) then ((some (x0.extract 6 x0.size : ByteArray)).bind fun y102 => (if 5 ≤ (x0.size : Int) then ((bf_.f k y102).bind fun t104 => (if (x0.extract 0 5).toList = t104.toList then ((strings_SplitN.f y102 (⟨#[32]⟩ : ByteArray) 3).bind fun t105 => (if (t105.length : Int) < 3 then (some ((⟨#[]⟩ : ByteArray), (⟨#[]⟩ : ByteArray), (⟨#[]⟩ : ByteArray), 9)) else (if 0 < (t105.length : Int) then (if 1 < (t105.length : Int) then (if 2 < (t105.length : Int) then ((aV_.f k (rdOf ByteArray.empty t105 0) (rdOf ByteArray.empty t105 1) (rdOf ByteArray.empty t105 2)).bind fun t112 => (if t112 = true then (some (rdOf ByteArray.empty t105 0, rdOf ByteArray.empty t105 1, rdOf ByteArray.empty t105 2, 0)) else (some ((⟨#[]⟩ : ByteArray), (⟨#[]⟩ : ByteArray), (⟨#[]⟩ : ByteArray), 9)))) else (none)) else (none)) else (none)))) else (some ((⟨#[]⟩ : ByteArray), (⟨#[]⟩ : ByteArray), (⟨#[]⟩ : ByteArray), 10)))) else (none))) else (none))
def av_.f (k : Nat) (a0 : ByteArray) : Option (ByteArray × ByteArray × ByteArray × Int) := if (a0.size : Int) < 6 then (av_.j0 k a0 true) else (if 5 < (a0.size : Int) then (av_.j0 k a0 ((bt a0 5) != 32)) else (none))
def av_.T9 : Bool × List (List Nat × List Nat) := (true, [([], []), ([0], [0]), ([1], [1]), ([], []), ([3], [3]), ([4], [4]), ([], []), ([6], [6]), ([7], [7]), ([2, 5, 8], [2, 5, 8]), ([], []), ([10, 9, 0, 1, 2, 3, 4, 5, 6, 7, 8, 9, 10], [9, 10])])
def av_.B9 : List Nat := [0, 1, 3, 0, 8, 24, 0, 64, 192, 511, 0, 2047]
theorem av_.tab9 : rtab .any (opsOf Tryd.f29 9) = av_.T9 := by kernel_rfl
theorem av_.bits9 : waitsOk av_.T9.2 av_.B9 = true := by kernel_rfl
set_option maxHeartbeats 8000000 in
set_option maxRecDepth 100000 in
theorem av_.calls (k : Nat) (a0 : ByteArray) (r1 : ByteArray) (r2 : ByteArray) (r3 : ByteArray) (r4 : Int) (w : World) (hTab_ : Tab_ w) (h : av_.f k a0 = some (r1, r2, r3, r4)) :
  Calls Tryd.prog 29 #[.string a0] w fun e w' => e = .returned (.tuple #[.agg #[.string r1, .string r2, .string r3], .int .i64 r4]) ∧ Below w.heap.size w w' := by
 have hu43 := Tryd.underlying43
 have HTab_ := Aside0.mk hTab_
 clear hTab_
 have HB := Aside0.mk (Below.refl w.heap.size w)
 have H : (if (a0.size : Int) < 6 then (av_.j0 k a0 true) else (if 5 < (a0.size : Int) then (av_.j0 k a0 ((bt a0 5) != 32)) else (none))) = some (r1, r2, r3, r4) := h
 clear h
 have HC2 := Aside0.mk H
 clear H
 go_enter Tryd.func29, Tryd.ntmps29
 go_upto_region 1 with (first | ((with_reducible refine bn_ (N := 2) rfl ?_); refine bs_ ?hg (N := 2) ?hd (cs := #[.string (⟨#[]⟩ : ByteArray), .string (⟨#[]⟩ : ByteArray), .string (⟨#[]⟩ : ByteArray)]) (t := 43) ?hr ?_; (case hd => rfl); (case hg => rfl); (case hr => (go_simp; try rfl)); intro gb101 hg w3 hbox hb; have BK101 := Aside0.mk (hbox); have GW101 := Aside0.mk ((by rw [hg]; exact (aw_ (bz HB.out)) : w.heap.size ≤ gb101)); have GE101 := Aside0.mk ((by rw [hg]; exact (aw_ (bz HB.out)) : w.heap.size ≤ gb101)); replace HB := Aside0.mk (au_ (bz HB.out) hb); clear hb hbox hg))
 (try simp only [Act.put, lsa_, ls0_, ls1_])
 go_cut [14] (fun v14 wc => ∃ (kq : Nat) (x14_1 : Bool), v14 = .bool x14_1 ∧ Aside0 (av_.j0 kq a0 x14_1 = some (r1, r2, r3, r4)) ∧ Aside0 (kq ≤ k) ∧ Aside0 (wc.heap[gb101]? = some (.cells #[.string (⟨#[]⟩ : ByteArray), .string (⟨#[]⟩ : ByteArray), .string (⟨#[]⟩ : ByteArray)] 43 (0, 0))) ∧ Aside0 (Below w.heap.size w wc))
 case first =>
  have H := HC2.out
  clear HC2
  by_cases c4 : (a0.size : Int) < 6
  rotate_left
  ·rw [if_neg c4] at H
   have c4b0 : decide ((a0.size : Int) < 6) = false := decide_eq_false c4
   have c4b1 : decide (a0.size < 6) = false := decide_eq_false (by omega)
   clear c4
   (first | rw [c4b0] | (simp only [i64_w, i32_w]; rw [c4b0]) | (simp only [c4b1, Bool.not_true, Bool.not_false]) | (simp only [c4b0, Bool.not_true, Bool.not_false]) | skip)
   by_cases c5 : 5 < (a0.size : Int)
   rotate_left
   ·rw [if_neg c5] at H
    exact absurd H (by simp)
   rw [if_pos c5] at H
   have c5b0 : decide (5 < (a0.size : Int)) = true := decide_eq_true c5
   have c5b1 : decide (5 < a0.size) = true := decide_eq_true (by omega)
   clear c5
   have H' := Aside0.mk H
   clear H
   have p6 : 0 ≤ (5 : Int) := (by omega)
   have q6 : 5 < a0.size := (by have : (5 : Int) < (a0.size : Int) := of_decide_eq_true (by assumption); omega)
   have hx6 : ∀ h : 5 < a0.size, ((a0[5]'h).toNat : Int) = bt a0 5 := bt_at a0 5
   clear p6
   have qi6 : (5 < (a0.size : Int)) = True := eq_true (of_decide_eq_true (by assumption))
   replace q6 := eq_true q6
   go_wp2
   go_meet
   case rel => exact ⟨_, (((bt a0 5) != 32)), (by first | rfl | (simp; done) | (simp [*]; done)), H', ⟨by first | omega | exact Nat.le_refl _⟩, ⟨by (with_reducible repeat (first | refine ae_ ?_ _ | refine am_ ?_ | refine af_ ?_ _)); exact BK101.out⟩, ⟨by repeat (first | (with_reducible first | exact HB.out | apply bA_ | apply bN_ | apply bD_ | refine al_ ?_ GE101.out) | exact HB.out)⟩⟩
  rw [if_pos c4] at H
  have c4b0 : decide ((a0.size : Int) < 6) = true := decide_eq_true c4
  have c4b1 : decide (a0.size < 6) = true := decide_eq_true (by omega)
  clear c4
  (first | rw [c4b0] | (simp only [i64_w, i32_w]; rw [c4b0]) | (simp only [c4b1, Bool.not_true, Bool.not_false]) | (simp only [c4b0, Bool.not_true, Bool.not_false]) | skip)
  have H' := Aside0.mk H
  clear H
  go_wp2
  go_meet
  case rel => exact ⟨_, (true), (by first | rfl | (simp; done) | (simp [*]; done)), H', ⟨by first | omega | exact Nat.le_refl _⟩, ⟨by (with_reducible repeat (first | refine ae_ ?_ _ | refine am_ ?_ | refine af_ ?_ _)); exact BK101.out⟩, ⟨by repeat (first | (with_reducible first | exact HB.out | apply bA_ | apply bN_ | apply bD_ | refine al_ ?_ GE101.out) | exact HB.out)⟩⟩
 case rest =>
  clear HC2
  obtain ⟨kq, x14_1, rfl, HA, HJ1, BK101, HB⟩ := hcut
  cases kq with
  | zero => exact absurd HA.out (by simp [av_.j0])
  | succ kj1 =>
   have H := HA.out
   clear HA
   simp only [av_.j0] at H
   by_cases c7 : x14_1 = true
   rotate_left
   ·replace c7 := Bool.eq_false_iff.mpr c7
    subst c7
    have H1 : (if 6 ≤ (a0.size : Int) then ((some (a0.extract 6 a0.size : ByteArray)).bind fun y102 => (if 5 ≤ (a0.size : Int) then ((bf_.f kj1 y102).bind fun t104 => (if (a0.extract 0 5).toList = t104.toList then ((strings_SplitN.f y102 (⟨#[32]⟩ : ByteArray) 3).bind fun t105 => (if (t105.length : Int) < 3 then (some ((⟨#[]⟩ : ByteArray), (⟨#[]⟩ : ByteArray), (⟨#[]⟩ : ByteArray), 9)) else (if 0 < (t105.length : Int) then (if 1 < (t105.length : Int) then (if 2 < (t105.length : Int) then ((aV_.f kj1 (rdOf ByteArray.empty t105 0) (rdOf ByteArray.empty t105 1) (rdOf ByteArray.empty t105 2)).bind fun t112 => (if t112 = true then (some (rdOf ByteArray.empty t105 0, rdOf ByteArray.empty t105 1, rdOf ByteArray.empty t105 2, 0)) else (some ((⟨#[]⟩ : ByteArray), (⟨#[]⟩ : ByteArray), (⟨#[]⟩ : ByteArray), 9)))) else (none)) else (none)) else (none)))) else (some ((⟨#[]⟩ : ByteArray), (⟨#[]⟩ : ByteArray), (⟨#[]⟩ : ByteArray), 10)))) else (none))) else (none)) = some (r1, r2, r3, r4) := by rw [if_neg (show ¬ (false = true) by decide)] at H; exact H
    clear H
    have H := H1
    clear H1
    by_cases c9 : 6 ≤ (a0.size : Int)
    rotate_left
    ·rw [if_neg c9] at H
     exact absurd H (by simp)
    rw [if_pos c9] at H
    have c9b0 := eq_true c9
    have c9b1 : decide (6 ≤ (a0.size : Int)) = true := decide_eq_true c9
    clear c9
    obtain ⟨y102, hy102⟩ : ∃ y_ : ByteArray, y_ = (a0.extract 6 a0.size) := ⟨_, rfl⟩
    replace H : (if 5 ≤ (a0.size : Int) then ((bf_.f kj1 y102).bind fun t104 => (if (a0.extract 0 5).toList = t104.toList then ((strings_SplitN.f y102 (⟨#[32]⟩ : ByteArray) 3).bind fun t105 => (if (t105.length : Int) < 3 then (some ((⟨#[]⟩ : ByteArray), (⟨#[]⟩ : ByteArray), (⟨#[]⟩ : ByteArray), 9)) else (if 0 < (t105.length : Int) then (if 1 < (t105.length : Int) then (if 2 < (t105.length : Int) then ((aV_.f kj1 (rdOf ByteArray.empty t105 0) (rdOf ByteArray.empty t105 1) (rdOf ByteArray.empty t105 2)).bind fun t112 => (if t112 = true then (some (rdOf ByteArray.empty t105 0, rdOf ByteArray.empty t105 1, rdOf ByteArray.empty t105 2, 0)) else (some ((⟨#[]⟩ : ByteArray), (⟨#[]⟩ : ByteArray), (⟨#[]⟩ : ByteArray), 9)))) else (none)) else (none)) else (none)))) else (some ((⟨#[]⟩ : ByteArray), (⟨#[]⟩ : ByteArray), (⟨#[]⟩ : ByteArray), 10)))) else (none)) = some (r1, r2, r3, r4) := by first | (rw [hy102]; with_reducible exact H) | (have H2_ := (Option.bind_some _ _).symm.trans H; rw [hy102]; with_reducible exact H2_) | (have H2_ := (Option.bind_some _ _).symm.trans H; with_reducible exact H2_) | with_reducible exact H | (rw [hy102]; exact H) | exact H
    have Ny102 := Aside0.mk hy102
    clear hy102
    have Sy102 := Ny102.out.symm
    by_cases c10 : 5 ≤ (a0.size : Int)
    rotate_left
    ·rw [if_neg c10] at H
     exact absurd H (by simp)
    rw [if_pos c10] at H
    have c10b0 := eq_true c10
    have c10b1 : decide (5 ≤ (a0.size : Int)) = true := decide_eq_true c10
    clear c10
    obtain ⟨y103, hy103⟩ : ∃ y_ : ByteArray, y_ = (a0.extract 0 5) := ⟨_, rfl⟩
    replace H : ((bf_.f kj1 y102).bind fun t104 => (if y103.toList = t104.toList then ((strings_SplitN.f y102 (⟨#[32]⟩ : ByteArray) 3).bind fun t105 => (if (t105.length : Int) < 3 then (some ((⟨#[]⟩ : ByteArray), (⟨#[]⟩ : ByteArray), (⟨#[]⟩ : ByteArray), 9)) else (if 0 < (t105.length : Int) then (if 1 < (t105.length : Int) then (if 2 < (t105.length : Int) then ((aV_.f kj1 (rdOf ByteArray.empty t105 0) (rdOf ByteArray.empty t105 1) (rdOf ByteArray.empty t105 2)).bind fun t112 => (if t112 = true then (some (rdOf ByteArray.empty t105 0, rdOf ByteArray.empty t105 1, rdOf ByteArray.empty t105 2, 0)) else (some ((⟨#[]⟩ : ByteArray), (⟨#[]⟩ : ByteArray), (⟨#[]⟩ : ByteArray), 9)))) else (none)) else (none)) else (none)))) else (some ((⟨#[]⟩ : ByteArray), (⟨#[]⟩ : ByteArray), (⟨#[]⟩ : ByteArray), 10)))) = some (r1, r2, r3, r4) := by first | (rw [hy103]; with_reducible exact H) | (have H2_ := (Option.bind_some _ _).symm.trans H; rw [hy103]; with_reducible exact H2_) | (have H2_ := (Option.bind_some _ _).symm.trans H; with_reducible exact H2_) | with_reducible exact H | (rw [hy103]; exact H) | exact H
    have Ny103 := Aside0.mk hy103
    clear hy103
    have Sy103 := Ny103.out.symm
    replace H := Option.bind_eq_some_iff.mp H
    obtain ⟨t104, A110, H⟩ := H
    (try dsimp only at H)
    have A11 := Aside0.mk A110
    clear A110
    have HC12 := Aside0.mk H
    clear H
    try go_wp2
    have n0_ := Aside0.mk (am_ BK101.out)
    have n1_ := Aside0.mk (bD_ HB.out)
    clear BK101
    clear HB
    have BK101 := n0_
    have HB := n1_
    clear n0_ n1_
    refine start_ (n := 5) (S := fun w' => True) (ds := []) #[f_,f_,f_,f_,f_] (by kernel_rfl) rfl rfl trivial (fun hHeld => ?_)
    generalize wc.drew = w13 at BK101 HB hHeld ⊢
    refine pure_ (i := 0) (N := some 18) (v := ?_) (a' := ?_) #[t_,f_,f_,f_,f_] rfl rfl (by kernel_rfl) (fun _ _ _ h => h) (Or.inl ⟨by rfl, ?_⟩) ?_ ?_
    rotate_left
    ·intro w'
     go_simp
     with_reducible rfl
    rotate_left
    ·simp only [Act.put, lsa_, ls0_, ls1_, i64_w, i32_w]
     rfl
    refine pure_ (i := 1) (N := some 19) (v := ?_) (a' := ?_) #[t_,t_,f_,f_,f_] rfl rfl (by kernel_rfl) (fun _ _ _ h => h) (Or.inl ⟨by rfl, ?_⟩) ?_ ?_
    rotate_left
    ·intro w'
     go_simp
     with_reducible rfl
    rotate_left
    ·simp only [Act.put, lsa_, ls0_, ls1_, i64_w, i32_w]
     rfl
    refine pure_ (i := 2) (N := some 20) (v := ?_) (a' := ?_) #[t_,t_,t_,f_,f_] rfl rfl (by kernel_rfl) (fun _ _ _ h => h) (Or.inl ⟨by rfl, ?_⟩) ?_ ?_
    rotate_left
    ·intro w'
     go_simp
     with_reducible rfl
    rotate_left
    ·simp only [Act.put, lsa_, ls0_, ls1_, i64_w, i32_w]
     rfl
    refine one_ (i := 3) (N := some 21) #[t_,t_,t_,t_,f_] rfl rfl (by kernel_rfl) (by decide) (fun K hK => ?_)
    (first | refine goes_ Tryd.func51 (by kernel_rfl) rfl #[.string y102] (by rfl) rfl rfl (by first | rfl | (simp only [List.map_toArray, List.map_cons, List.map_nil]; first | done | rfl)) ?_ | refine RPW.goesV_ Tryd.func51 (by kernel_rfl) rfl #[.string y102] (by rfl) rfl rfl rfl (by first | rfl | (simp only [List.map_toArray, List.map_cons, List.map_nil]; first | done | rfl)) ?_ | refine RPW.goesC_ Tryd.func51 (by kernel_rfl) rfl #[.string y102] (by rfl) rfl rfl rfl (by first | rfl | (simp only [List.map_toArray, List.map_cons, List.map_nil]; first | done | rfl)) ?_)
    with_reducible refine (bf_.calls kj1 y102 t104 _ ?side1 A11.out).mono ?_
    (case side1 => exact bx_ HTab_.out (by repeat (first | (with_reducible first | exact HB.out | apply bA_ | apply bN_ | apply bD_ | refine al_ ?_ GE101.out) | exact HB.out)))
    rintro e w14 ⟨rfl, hb⟩
    refine ⟨_, rfl, ?_⟩
    have n0_ := Aside0.mk (bv_ (g := gb101) (o := .cells #[.string (⟨#[]⟩ : ByteArray), .string (⟨#[]⟩ : ByteArray), .string (⟨#[]⟩ : ByteArray)] 43 (0, 0)) (kz BK101.out) hb)
    have n1_ := Aside0.mk (au_ (by repeat (first | (with_reducible first | exact HB.out | apply bA_ | apply bN_ | apply bD_ | refine al_ ?_ GE101.out) | exact HB.out)) hb)
    clear BK101
    clear HB
    have BK101 := n0_
    have HB := n1_
    clear n0_ n1_
    (try clear hb)
    refine hK.out _ _ trivial (fun hHeld => ?_)
    clear hK K
    refine norm_ (a' := ?_) ?_ ?_
    rotate_left
    ·show Act.put _ (some 21) _ = _
     simp only [Act.put, lsa_, ls0_, ls1_, i64_w, i32_w]
     rfl
    refine pure_ (i := 4) (N := some 22) (v := ?_) (a' := ?_) #[t_,t_,t_,t_,t_] rfl rfl (by kernel_rfl) (fun _ _ _ h => h) (Or.inl ⟨by rfl, ?_⟩) ?_ ?_
    rotate_left
    ·intro w'
     go_simp
     with_reducible rfl
    rotate_left
    ·simp only [Act.put, lsa_, ls0_, ls1_, i64_w, i32_w]
     rfl
    refine done_ (by kernel_rfl) ?_
    go_upto_if 22 with (fail)
    have H := HC12.out
    clear HC12
    by_cases c15 : y103.toList = t104.toList
    rotate_left
    ·rw [if_neg c15] at H
     have c15b0 : (y103.toList == t104.toList) = false := beq_eq_false_iff_ne.mpr c15
     have c15b1 : (y103.toList != t104.toList) = true := bne_iff_ne.mpr c15
     (first | rw [c15b0] | (simp only [i64_w, i32_w]; rw [c15b0]) | (simp only [c15b1, Bool.not_true, Bool.not_false]) | (simp only [c15b0, Bool.not_true, Bool.not_false]) | skip)
     simp only [Option.some.injEq, Prod.mk.injEq] at H
     obtain ⟨rfl, rfl, rfl, rfl⟩ := H
     have hcz41_0 : w14.cell? ⟨gb101, 0, none⟩ = some (.string (⟨#[]⟩ : ByteArray)) := (ai_ BK101.out 0).trans rfl
     have hcz41_1 : w14.cell? ⟨gb101, 1, none⟩ = some (.string (⟨#[]⟩ : ByteArray)) := (ai_ BK101.out 1).trans rfl
     have hcz41_2 : w14.cell? ⟨gb101, 2, none⟩ = some (.string (⟨#[]⟩ : ByteArray)) := (ai_ BK101.out 2).trans rfl
     have hfz41_0 := ab_ BK101.out 0
     have hfz41_1 := ab_ BK101.out 1
     have hfz41_2 := ab_ BK101.out 2
     go_wp2
     refine bodyPost_ret (bt_ rfl _ _ gb101 43 #[.string (⟨#[]⟩ : ByteArray), .string (⟨#[]⟩ : ByteArray), .string (⟨#[]⟩ : ByteArray)] (0, 0) _ rfl (by (with_reducible repeat (first | refine ae_ ?_ _ | refine am_ ?_ | refine af_ ?_ _)); refine aI_ (cs := #[.string (⟨#[]⟩ : ByteArray), .string (⟨#[]⟩ : ByteArray), .string (⟨#[]⟩ : ByteArray)]) ?_ 2 _ rfl; (with_reducible repeat (first | refine ae_ ?_ _ | refine am_ ?_ | refine af_ ?_ _)); refine aI_ (cs := #[.string (⟨#[]⟩ : ByteArray), .string (⟨#[]⟩ : ByteArray), .string (⟨#[]⟩ : ByteArray)]) ?_ 1 _ rfl; (with_reducible repeat (first | refine ae_ ?_ _ | refine am_ ?_ | refine af_ ?_ _)); refine aI_ (cs := #[.string (⟨#[]⟩ : ByteArray), .string (⟨#[]⟩ : ByteArray), .string (⟨#[]⟩ : ByteArray)]) ?_ 0 _ rfl; (with_reducible repeat (first | refine ae_ ?_ _ | refine am_ ?_ | refine af_ ?_ _)); exact BK101.out) Tryd.underlying43 rfl (by kernel_rfl)) rfl ?_
     exact ⟨by first | rfl | (simp [*, ap_, aq_] <;> rfl), by repeat (first | (with_reducible first | exact HB.out | apply bA_ | apply bN_ | apply bD_ | refine al_ ?_ GE101.out) | exact HB.out)⟩
    rw [if_pos c15] at H
    have c15b0 : (y103.toList == t104.toList) = true := beq_iff_eq.mpr c15
    have c15b1 : (y103.toList != t104.toList) = false := bne_eq_false_iff_eq.mpr c15
    clear c15
    (first | rw [c15b0] | (simp only [i64_w, i32_w]; rw [c15b0]) | (simp only [c15b1, Bool.not_true, Bool.not_false]) | (simp only [c15b0, Bool.not_true, Bool.not_false]) | skip)
    replace H := Option.bind_eq_some_iff.mp H
    obtain ⟨t105, A160, H⟩ := H
    (try dsimp only at H)
    have A16 := Aside0.mk A160
    clear A160
    have HC17 := Aside0.mk H
    clear H
    go_upto_if 28 with (first | ((with_reducible refine as_ (f := 52) rfl ?_); refine aY_ (some 25) rfl rfl Tryd.func52 (by kernel_rfl) rfl #[.string y102, .string (⟨#[32]⟩ : ByteArray), .int .i64 3] rfl (by first | rfl | (simp only [List.map_toArray, List.map_cons, List.map_nil]; first | done | rfl)) ?_; (with_reducible refine (strings_SplitN.calls y102 (⟨#[32]⟩ : ByteArray) 3 t105 _ ?side1 A16.out).mono ?_); (case side1 => exact bx_ HTab_.out (by repeat (first | (with_reducible first | exact HB.out | apply bA_ | apply bN_ | apply bD_ | refine al_ ?_ GE101.out) | exact HB.out))); rintro e w18 ⟨v106, rfl, ho0, hb⟩; refine ⟨_, rfl, ?_⟩; have HO107 := Aside0.mk (Kd.bw_ ho0 (aw_ (by repeat (first | (with_reducible first | exact HB.out | apply bA_ | apply bN_ | apply bD_ | refine al_ ?_ GE101.out) | exact HB.out)))); replace BK101 := Aside0.mk (bv_ (g := gb101) (o := .cells #[.string (⟨#[]⟩ : ByteArray), .string (⟨#[]⟩ : ByteArray), .string (⟨#[]⟩ : ByteArray)] 43 (0, 0)) (kz BK101.out) hb); replace HB := Aside0.mk (au_ (by repeat (first | (with_reducible first | exact HB.out | apply bA_ | apply bN_ | apply bD_ | refine al_ ?_ GE101.out) | exact HB.out)) hb); (try clear hb); (try clear ho0); obtain ⟨Ao19, co19, eo19⟩ := Kd.bc_ HO107.out; subst eo19))
    (try simp only [Act.put, lsa_, ls0_, ls1_])
    have H := HC17.out
    clear HC17
    by_cases c20 : (t105.length : Int) < 3
    rotate_left
    ·rw [if_neg c20] at H
     have c20b0 : decide ((t105.length : Int) < 3) = false := decide_eq_false c20
     have c20b1 : decide (t105.length < 3) = false := decide_eq_false (by omega)
     clear c20
     (first | rw [c20b0] | (simp only [i64_w, i32_w]; rw [c20b0]) | (simp only [c20b1, Bool.not_true, Bool.not_false]) | (simp only [c20b0, Bool.not_true, Bool.not_false]) | skip)
     by_cases c22 : 0 < (t105.length : Int)
     rotate_left
     ·rw [if_neg c22] at H
      exact absurd H (by simp)
     rw [if_pos c22] at H
     have c22b0 : decide (0 < (t105.length : Int)) = true := decide_eq_true c22
     have c22b1 : decide (0 < t105.length) = true := decide_eq_true (by omega)
     clear c22
     by_cases c23 : 1 < (t105.length : Int)
     rotate_left
     ·rw [if_neg c23] at H
      exact absurd H (by simp)
     rw [if_pos c23] at H
     have c23b0 : decide (1 < (t105.length : Int)) = true := decide_eq_true c23
     have c23b1 : decide (1 < t105.length) = true := decide_eq_true (by omega)
     clear c23
     by_cases c24 : 2 < (t105.length : Int)
     rotate_left
     ·rw [if_neg c24] at H
      exact absurd H (by simp)
     rw [if_pos c24] at H
     have c24b0 : decide (2 < (t105.length : Int)) = true := decide_eq_true c24
     have c24b1 : decide (2 < t105.length) = true := decide_eq_true (by omega)
     clear c24
     replace H := Option.bind_eq_some_iff.mp H
     obtain ⟨t112, A250, H⟩ := H
     (try dsimp only at H)
     have A25 := Aside0.mk A250
     clear A250
     have HC26 := Aside0.mk H
     clear H
     try go_wp2
     (try (rw [bq_ w18]; generalize hq_ : World.drewN w18 _ = w18; have n0_ : Aside0 (Kd.R Kd.string 9 w18 w.heap.size (fun k_ => True) (.slice Ao19 t105.length co19) t105) := ⟨by rw [← hq_]; exact (rz HO107.out)⟩; have n1_ : Aside0 (w18.heap[gb101]? = some (.cells #[.string (⟨#[]⟩ : ByteArray), .string (⟨#[]⟩ : ByteArray), .string (⟨#[]⟩ : ByteArray)] 43 (0, 0))) := ⟨by rw [← hq_]; exact (kz BK101.out)⟩; have n2_ : Aside0 (Below w.heap.size w w18) := ⟨by rw [← hq_]; exact (by repeat (first | (with_reducible first | exact HB.out | apply bA_ | apply bN_ | apply bD_ | refine al_ ?_ GE101.out) | exact HB.out))⟩; clear HO107 BK101 HB hq_; have HO107 := n0_; have BK101 := n1_; have HB := n2_; clear n0_ n1_ n2_))
     have n0_ := Aside0.mk (Kd.R_drew HO107.out)
     have n1_ := Aside0.mk (am_ BK101.out)
     have n2_ := Aside0.mk (bD_ HB.out)
     clear HO107
     clear BK101
     clear HB
     have HO107 := n0_
     have BK101 := n1_
     have HB := n2_
     clear n0_ n1_ n2_
     have p108 : 0 ≤ (0 : Int) := (by omega)
     have q108 : 0 < (t105.length : Int) := of_decide_eq_true (by assumption)
     obtain ⟨ad108, e108, hx108_0⟩ := Kd.bp_ (Kd.ay_ HO107.out).2.2 0 p108 q108
     cases e108
     have qi108 : (0 < t105.length) = True := eq_true (by omega)
     (try rw [show ((0 : Int)).toNat = 0 from rfl] at hx108_0)
     (try rw [Addr.add_zero'] at hx108_0)
     replace p108 := eq_true p108
     replace q108 := eq_true q108
     have p109 : 0 ≤ (1 : Int) := (by omega)
     have q109 : 1 < (t105.length : Int) := of_decide_eq_true (by assumption)
     obtain ⟨ad109, e109, hx109_0⟩ := Kd.bp_ (Kd.ay_ HO107.out).2.2 1 p109 q109
     obtain rfl : ad108 = ad109 := (by injection e109)
     (try simp only [show (1 : Int).toNat = 1 from rfl, Nat.reduceMul, Nat.reduceEqDiff, Go.Addr.add, ↓reduceIte] at hx109_0)
     have qi109 : (1 < t105.length) = True := eq_true (by omega)
     (try rw [show ((1 : Int)).toNat = 1 from rfl] at hx109_0)
     replace p109 := eq_true p109
     replace q109 := eq_true q109
     have p110 : 0 ≤ (2 : Int) := (by omega)
     have q110 : 2 < (t105.length : Int) := of_decide_eq_true (by assumption)
     obtain ⟨ad110, e110, hx110_0⟩ := Kd.bp_ (Kd.ay_ HO107.out).2.2 2 p110 q110
     obtain rfl : ad108 = ad110 := (by injection e110)
     (try simp only [show (2 : Int).toNat = 2 from rfl, Nat.reduceMul, Nat.reduceEqDiff, Go.Addr.add, ↓reduceIte] at hx110_0)
     have qi110 : (2 < t105.length) = True := eq_true (by omega)
     (try rw [show ((2 : Int)).toNat = 2 from rfl] at hx110_0)
     replace p110 := eq_true p110
     replace q110 := eq_true q110
     refine start_ (n := 12) (S := fun w' => w'.cell? ad108 = some (.string (rdOf ByteArray.empty t105 0)) ∧ w'.cell? ⟨ad108.block, ad108.off + 1, none⟩ = some (.string (rdOf ByteArray.empty t105 1)) ∧ w'.cell? ⟨ad108.block, ad108.off + 2, none⟩ = some (.string (rdOf ByteArray.empty t105 2))) (ds := []) #[f_,f_,f_,f_,f_,f_,f_,f_,f_,f_,f_,f_] (by kernel_rfl) rfl rfl ⟨hx108_0, hx109_0, hx110_0⟩ (fun hHeld => ?_); refine bE_ av_.tab9 av_.bits9 (fun HT_ HW_ => ?_)
     generalize w18.drew = w27 at HO107 BK101 HB hx108_0 hx109_0 hx110_0 hHeld ⊢
     refine pure_ (i := 0) (N := some 30) (v := ?_) (a' := ?_) #[t_,f_,f_,f_,f_,f_,f_,f_,f_,f_,f_,f_] rfl rfl (aD_ HT_.out (by kernel_rfl)) (fun _ _ _ h => h) (Or.inl ⟨by rfl, ?_⟩) ?_ ?_
     rotate_left
     ·intro w'
      go_simp
      with_reducible rfl
     rotate_left
     ·simp only [Act.put, lsa_, ls0_, ls1_, i64_w, i32_w]
      rfl
     refine pure_ (i := 1) (N := some 31) (v := ?_) (a' := ?_) #[t_,t_,f_,f_,f_,f_,f_,f_,f_,f_,f_,f_] rfl rfl (aD_ HT_.out (by kernel_rfl)) (fun _ _ _ h => h) (Or.inl ⟨by rfl, ?_⟩) ?_ ?_
     rotate_left
     ·intro w'
      go_simp
      with_reducible rfl
     rotate_left
     ·simp only [Act.put, lsa_, ls0_, ls1_, i64_w, i32_w]
      rfl
     refine pure_ (i := 3) (N := some 33) (v := ?_) (a' := ?_) #[t_,t_,f_,t_,f_,f_,f_,f_,f_,f_,f_,f_] rfl rfl (aD_ HT_.out (by kernel_rfl)) (fun _ _ _ h => h) (Or.inl ⟨by rfl, ?_⟩) ?_ ?_
     rotate_left
     ·intro w'
      go_simp
      with_reducible rfl
     rotate_left
     ·simp only [Act.put, lsa_, ls0_, ls1_, i64_w, i32_w]
      rfl
     refine pure_ (i := 4) (N := some 34) (v := ?_) (a' := ?_) #[t_,t_,f_,t_,t_,f_,f_,f_,f_,f_,f_,f_] rfl rfl (aD_ HT_.out (by kernel_rfl)) (fun _ _ _ h => h) (Or.inl ⟨by rfl, ?_⟩) ?_ ?_
     rotate_left
     ·intro w'
      go_simp
      with_reducible rfl
     rotate_left
     ·simp only [Act.put, lsa_, ls0_, ls1_, i64_w, i32_w]
      rfl
     refine pure_ (i := 6) (N := some 36) (v := ?_) (a' := ?_) #[t_,t_,f_,t_,t_,f_,t_,f_,f_,f_,f_,f_] rfl rfl (aD_ HT_.out (by kernel_rfl)) (fun _ _ _ h => h) (Or.inl ⟨by rfl, ?_⟩) ?_ ?_
     rotate_left
     ·intro w'
      go_simp
      with_reducible rfl
     rotate_left
     ·simp only [Act.put, lsa_, ls0_, ls1_, i64_w, i32_w]
      rfl
     refine pure_ (i := 7) (N := some 37) (v := ?_) (a' := ?_) #[t_,t_,f_,t_,t_,f_,t_,t_,f_,f_,f_,f_] rfl rfl (aD_ HT_.out (by kernel_rfl)) (fun _ _ _ h => h) (Or.inl ⟨by rfl, ?_⟩) ?_ ?_
     rotate_left
     ·intro w'
      go_simp
      with_reducible rfl
     rotate_left
     ·simp only [Act.put, lsa_, ls0_, ls1_, i64_w, i32_w]
      rfl
     refine take_ (i := 2) (N := some 32) (v := ?_) (a' := ?_) #[t_,t_,t_,t_,t_,f_,t_,t_,f_,f_,f_,f_] rfl rfl (bI_ HT_.out HW_.out (by kernel_rfl)) (fun _ _ _ h => h) (Or.inl ⟨by rfl, ?_⟩) hHeld ?_ ?_
     rotate_left
     ·rintro w' ⟨s0, s1, s2⟩
      go_simp
      with_reducible rfl
     rotate_left
     ·simp only [Act.put, lsa_, ls0_, ls1_, i64_w, i32_w]
      rfl
     refine take_ (i := 5) (N := some 35) (v := ?_) (a' := ?_) #[t_,t_,t_,t_,t_,t_,t_,t_,f_,f_,f_,f_] rfl rfl (bI_ HT_.out HW_.out (by kernel_rfl)) (fun _ _ _ h => h) (Or.inl ⟨by rfl, ?_⟩) hHeld ?_ ?_
     rotate_left
     ·rintro w' ⟨s0, s1, s2⟩
      go_simp
      with_reducible rfl
     rotate_left
     ·simp only [Act.put, lsa_, ls0_, ls1_, i64_w, i32_w]
      rfl
     refine take_ (i := 8) (N := some 38) (v := ?_) (a' := ?_) #[t_,t_,t_,t_,t_,t_,t_,t_,t_,f_,f_,f_] rfl rfl (bI_ HT_.out HW_.out (by kernel_rfl)) (fun _ _ _ h => h) (Or.inl ⟨by rfl, ?_⟩) hHeld ?_ ?_
     rotate_left
     ·rintro w' ⟨s0, s1, s2⟩
      go_simp
      with_reducible rfl
     rotate_left
     ·simp only [Act.put, lsa_, ls0_, ls1_, i64_w, i32_w]
      rfl
     refine pure_ (i := 9) (N := some 39) (v := ?_) (a' := ?_) #[t_,t_,t_,t_,t_,t_,t_,t_,t_,t_,f_,f_] rfl rfl (aD_ HT_.out (by kernel_rfl)) (fun _ _ _ h => h) (Or.inl ⟨by rfl, ?_⟩) ?_ ?_
     rotate_left
     ·intro w'
      go_simp
      with_reducible rfl
     rotate_left
     ·simp only [Act.put, lsa_, ls0_, ls1_, i64_w, i32_w]
      rfl
     refine one_ (i := 10) (N := some 6) #[t_,t_,t_,t_,t_,t_,t_,t_,t_,t_,t_,f_] rfl rfl (one_of HT_.out (by kernel_rfl)) (by decide) (fun K hK => ?_)
     refine box_step ?hg (N := 6) ?hd (cs := #[.string (⟨#[]⟩ : ByteArray), .string (⟨#[]⟩ : ByteArray), .string (⟨#[]⟩ : ByteArray)]) (t := 43) ?hr ?_; (case hd => rfl); (case hg => rfl); (case hr => (go_simp; try rfl))
     intro gb111 hg w28 hbox hb
     have HS0_ := (hb.cell (bl_ _ _ (hHeld.1))).trans (hHeld.1)
     have HS1_ := (hb.cell (bl_ _ _ (hHeld.2.1))).trans (hHeld.2.1)
     have HS2_ := (hb.cell (bl_ _ _ (hHeld.2.2))).trans (hHeld.2.2)
     have n0_ := Aside0.mk (Kd.aZ_ (rz HO107.out) hb)
     have n1_ := Aside0.mk (bv_ (g := gb101) (o := .cells #[.string (⟨#[]⟩ : ByteArray), .string (⟨#[]⟩ : ByteArray), .string (⟨#[]⟩ : ByteArray)] 43 (0, 0)) (kz BK101.out) hb)
     have n2_ := Aside0.mk (au_ (by repeat (first | (with_reducible first | exact HB.out | apply bA_ | apply bN_ | apply bD_ | refine al_ ?_ GE101.out) | exact HB.out)) hb)
     have n3_ := Aside0.mk (hbox)
     have n4_ := Aside0.mk ((by rw [hg]; exact (aw_ (by repeat (first | (with_reducible first | exact HB.out | apply bA_ | apply bN_ | apply bD_ | refine al_ ?_ GE101.out) | exact HB.out))) : w.heap.size ≤ gb111))
     have n5_ := Aside0.mk ((by rw [hg]; exact (aw_ (by repeat (first | (with_reducible first | exact HB.out | apply bA_ | apply bN_ | apply bD_ | refine al_ ?_ GE101.out) | exact HB.out))) : w.heap.size ≤ gb111))
     have n6_ := Aside0.mk ((by rw [hg]; exact Nat.ne_of_lt (blk_lt (g := gb101) (o := .cells #[.string (⟨#[]⟩ : ByteArray), .string (⟨#[]⟩ : ByteArray), .string (⟨#[]⟩ : ByteArray)] 43 (0, 0)) (kz BK101.out)) : gb101 ≠ gb111))
     have n7_ := Aside0.mk ((by rw [hg]; exact Nat.ne_of_gt (blk_lt (g := gb101) (o := .cells #[.string (⟨#[]⟩ : ByteArray), .string (⟨#[]⟩ : ByteArray), .string (⟨#[]⟩ : ByteArray)] 43 (0, 0)) (kz BK101.out)) : gb111 ≠ gb101))
     clear HO107
     clear BK101
     clear HB
     have HO107 := n0_
     have BK101 := n1_
     have HB := n2_
     have BK111 := n3_
     have GW111 := n4_
     have GE111 := n5_
     have NB101_111 := n6_
     have NB111_101 := n7_
     clear n0_ n1_ n2_ n3_ n4_ n5_ n6_ n7_
     clear hb hbox hg
     refine hK.out _ _ ⟨HS0_, HS1_, HS2_⟩ (fun hHeld => ?_)
     clear hK K
     refine norm_ (a' := ?_) ?_ ?_
     rotate_left
     ·show Act.put _ (some 6) _ = _
      simp only [Act.put, lsa_, ls0_, ls1_, i64_w, i32_w]
      rfl
     refine one_ (i := 11) (N := none) #[t_,t_,t_,t_,t_,t_,t_,t_,t_,t_,t_,t_] rfl rfl (one_of HT_.out (by kernel_rfl)) (by decide) (fun K hK => ?_)
     have hs29 : w28.cell? ⟨gb111, 0, none⟩ = some (.string (⟨#[]⟩ : ByteArray)) := (ai_ BK111.out 0).trans rfl
     have hfs29 := ab_ BK111.out 0
     have hns29_0 := NB101_111.out
     have hms29_0 := NB111_101.out
     have hs30 : w28.cell? ⟨gb111, 1, none⟩ = some (.string (⟨#[]⟩ : ByteArray)) := (ai_ BK111.out 1).trans rfl
     have hfs30 := ab_ BK111.out 1
     have hns30_0 := NB101_111.out
     have hms30_0 := NB111_101.out
     have hs31 : w28.cell? ⟨gb111, 2, none⟩ = some (.string (⟨#[]⟩ : ByteArray)) := (ai_ BK111.out 2).trans rfl
     have hfs31 := ab_ BK111.out 2
     have hns31_0 := NB101_111.out
     have hms31_0 := NB111_101.out
     refine skip_ (w1 := ?_) (by rfl) rfl ?_ ?_
     rotate_left
     ·go_simp
      rfl
     refine hK.out _ _ ⟨((cell_far (p := ⟨gb111, _, none⟩) (by first | exact Kd.aX_ (Kd.R_ne HO107.out BK111.out (by decide)) | (rw [add_block]; exact Kd.aX_ (Kd.R_ne HO107.out BK111.out (by decide))) | (show (Addr.add _ _).block ≠ _; rw [add_block]; exact Kd.aX_ (Kd.R_ne HO107.out BK111.out (by decide))) | (dsimp only; exact Kd.aX_ (Kd.R_ne HO107.out BK111.out (by decide)))) _).trans (((cell_far (p := ⟨gb111, _, none⟩) (by first | exact Kd.aX_ (Kd.R_ne HO107.out BK111.out (by decide)) | (rw [add_block]; exact Kd.aX_ (Kd.R_ne HO107.out BK111.out (by decide))) | (show (Addr.add _ _).block ≠ _; rw [add_block]; exact Kd.aX_ (Kd.R_ne HO107.out BK111.out (by decide))) | (dsimp only; exact Kd.aX_ (Kd.R_ne HO107.out BK111.out (by decide)))) _).trans (((cell_far (p := ⟨gb111, _, none⟩) (by first | exact Kd.aX_ (Kd.R_ne HO107.out BK111.out (by decide)) | (rw [add_block]; exact Kd.aX_ (Kd.R_ne HO107.out BK111.out (by decide))) | (show (Addr.add _ _).block ≠ _; rw [add_block]; exact Kd.aX_ (Kd.R_ne HO107.out BK111.out (by decide))) | (dsimp only; exact Kd.aX_ (Kd.R_ne HO107.out BK111.out (by decide)))) _).trans (hHeld.1)))))), ((cell_far (p := ⟨gb111, _, none⟩) (by first | exact Kd.aX_ (Kd.R_ne HO107.out BK111.out (by decide)) | (rw [add_block]; exact Kd.aX_ (Kd.R_ne HO107.out BK111.out (by decide))) | (show (Addr.add _ _).block ≠ _; rw [add_block]; exact Kd.aX_ (Kd.R_ne HO107.out BK111.out (by decide))) | (dsimp only; exact Kd.aX_ (Kd.R_ne HO107.out BK111.out (by decide)))) _).trans (((cell_far (p := ⟨gb111, _, none⟩) (by first | exact Kd.aX_ (Kd.R_ne HO107.out BK111.out (by decide)) | (rw [add_block]; exact Kd.aX_ (Kd.R_ne HO107.out BK111.out (by decide))) | (show (Addr.add _ _).block ≠ _; rw [add_block]; exact Kd.aX_ (Kd.R_ne HO107.out BK111.out (by decide))) | (dsimp only; exact Kd.aX_ (Kd.R_ne HO107.out BK111.out (by decide)))) _).trans (((cell_far (p := ⟨gb111, _, none⟩) (by first | exact Kd.aX_ (Kd.R_ne HO107.out BK111.out (by decide)) | (rw [add_block]; exact Kd.aX_ (Kd.R_ne HO107.out BK111.out (by decide))) | (show (Addr.add _ _).block ≠ _; rw [add_block]; exact Kd.aX_ (Kd.R_ne HO107.out BK111.out (by decide))) | (dsimp only; exact Kd.aX_ (Kd.R_ne HO107.out BK111.out (by decide)))) _).trans (hHeld.2.1)))))), ((cell_far (p := ⟨gb111, _, none⟩) (by first | exact Kd.aX_ (Kd.R_ne HO107.out BK111.out (by decide)) | (rw [add_block]; exact Kd.aX_ (Kd.R_ne HO107.out BK111.out (by decide))) | (show (Addr.add _ _).block ≠ _; rw [add_block]; exact Kd.aX_ (Kd.R_ne HO107.out BK111.out (by decide))) | (dsimp only; exact Kd.aX_ (Kd.R_ne HO107.out BK111.out (by decide)))) _).trans (((cell_far (p := ⟨gb111, _, none⟩) (by first | exact Kd.aX_ (Kd.R_ne HO107.out BK111.out (by decide)) | (rw [add_block]; exact Kd.aX_ (Kd.R_ne HO107.out BK111.out (by decide))) | (show (Addr.add _ _).block ≠ _; rw [add_block]; exact Kd.aX_ (Kd.R_ne HO107.out BK111.out (by decide))) | (dsimp only; exact Kd.aX_ (Kd.R_ne HO107.out BK111.out (by decide)))) _).trans (((cell_far (p := ⟨gb111, _, none⟩) (by first | exact Kd.aX_ (Kd.R_ne HO107.out BK111.out (by decide)) | (rw [add_block]; exact Kd.aX_ (Kd.R_ne HO107.out BK111.out (by decide))) | (show (Addr.add _ _).block ≠ _; rw [add_block]; exact Kd.aX_ (Kd.R_ne HO107.out BK111.out (by decide))) | (dsimp only; exact Kd.aX_ (Kd.R_ne HO107.out BK111.out (by decide)))) _).trans (hHeld.2.2))))))⟩ (fun hHeld => ?_)
     clear hK K
     refine done_ (done_of HT_.out (by kernel_rfl)) ?_
     have hnb32 := NB111_101.out
     have hnc32 := NB101_111.out
     have hcz33_0 : w28.cell? ⟨gb111, 0, none⟩ = some (.string (⟨#[]⟩ : ByteArray)) := (ai_ BK111.out 0).trans rfl
     have hcz33_1 : w28.cell? ⟨gb111, 1, none⟩ = some (.string (⟨#[]⟩ : ByteArray)) := (ai_ BK111.out 1).trans rfl
     have hcz33_2 : w28.cell? ⟨gb111, 2, none⟩ = some (.string (⟨#[]⟩ : ByteArray)) := (ai_ BK111.out 2).trans rfl
     have hfz33_0 := ab_ BK111.out 0
     have hfz33_1 := ab_ BK111.out 1
     have hfz33_2 := ab_ BK111.out 2
     go_upto_if 42 with (first | ((with_reducible refine as_ (f := 53) rfl ?_); refine aY_ (some 41) rfl rfl Tryd.func53 (by kernel_rfl) rfl #[.agg #[.string (rdOf ByteArray.empty t105 0), .string (rdOf ByteArray.empty t105 1), .string (rdOf ByteArray.empty t105 2)]] rfl (by first | rfl | (simp only [List.map_toArray, List.map_cons, List.map_nil]; first | done | rfl)) ?_; (with_reducible refine (aV_.calls kj1 (rdOf ByteArray.empty t105 0) (rdOf ByteArray.empty t105 1) (rdOf ByteArray.empty t105 2) t112 _ A25.out).mono ?_); rintro e w34 ⟨rfl, hb⟩; refine ⟨_, rfl, ?_⟩; replace HO107 := Aside0.mk (Kd.aZ_ (rz (Kd.ba_ (Kd.R_far (p := ⟨gb111, 2, none⟩) (Kd.R_far (p := ⟨gb111, 1, none⟩) (Kd.R_far (p := ⟨gb111, 0, none⟩) (Kd.R_types HO107.out BK111.out (by decide)) (fun _ hk => hk.2) (.string (rdOf ByteArray.empty t105 0))) (fun _ hk => hk.2) (.string (rdOf ByteArray.empty t105 1))) (fun _ hk => hk.2) (.string (rdOf ByteArray.empty t105 2))) (fun _ h_ => h_.1))) hb); replace BK101 := Aside0.mk (bv_ (g := gb101) (o := .cells #[.string (⟨#[]⟩ : ByteArray), .string (⟨#[]⟩ : ByteArray), .string (⟨#[]⟩ : ByteArray)] 43 (0, 0)) (by (with_reducible repeat (first | refine ae_ ?_ _ | refine am_ ?_ | refine af_ ?_ _)); refine blk_far ?_ NB101_111.out _; (with_reducible repeat (first | refine ae_ ?_ _ | refine am_ ?_ | refine af_ ?_ _)); refine blk_far ?_ NB101_111.out _; (with_reducible repeat (first | refine ae_ ?_ _ | refine am_ ?_ | refine af_ ?_ _)); refine blk_far ?_ NB101_111.out _; (with_reducible repeat (first | refine ae_ ?_ _ | refine am_ ?_ | refine af_ ?_ _)); exact BK101.out) hb); replace BK111 := Aside0.mk (bv_ (g := gb111) (o := .cells #[.string (rdOf ByteArray.empty t105 0), .string (rdOf ByteArray.empty t105 1), .string (rdOf ByteArray.empty t105 2)] 43 (0, 0)) (by (with_reducible repeat (first | refine ae_ ?_ _ | refine am_ ?_ | refine af_ ?_ _)); refine aI_ (cs := #[.string (rdOf ByteArray.empty t105 0), .string (rdOf ByteArray.empty t105 1), .string (⟨#[]⟩ : ByteArray)]) ?_ 2 _ rfl; (with_reducible repeat (first | refine ae_ ?_ _ | refine am_ ?_ | refine af_ ?_ _)); refine aI_ (cs := #[.string (rdOf ByteArray.empty t105 0), .string (⟨#[]⟩ : ByteArray), .string (⟨#[]⟩ : ByteArray)]) ?_ 1 _ rfl; (with_reducible repeat (first | refine ae_ ?_ _ | refine am_ ?_ | refine af_ ?_ _)); refine aI_ (cs := #[.string (⟨#[]⟩ : ByteArray), .string (⟨#[]⟩ : ByteArray), .string (⟨#[]⟩ : ByteArray)]) ?_ 0 _ rfl; (with_reducible repeat (first | refine ae_ ?_ _ | refine am_ ?_ | refine af_ ?_ _)); exact BK111.out) hb); replace HB := Aside0.mk (au_ (by repeat (first | (with_reducible first | exact HB.out | apply bA_ | apply bN_ | apply bD_ | refine al_ ?_ GE101.out | refine al_ ?_ GE111.out) | exact HB.out)) hb); (try clear hb)))
     (try simp only [Act.put, lsa_, ls0_, ls1_])
     have H := HC26.out
     clear HC26
     by_cases c35 : t112 = true
     rotate_left
     ·replace c35 := Bool.eq_false_iff.mpr c35
      subst c35
      have H1 : (some ((⟨#[]⟩ : ByteArray), (⟨#[]⟩ : ByteArray), (⟨#[]⟩ : ByteArray), 9)) = some (r1, r2, r3, r4) := by rw [if_neg (show ¬ (false = true) by decide)] at H; exact H
      clear H
      have H := H1
      clear H1
      simp only [Option.some.injEq, Prod.mk.injEq] at H
      obtain ⟨rfl, rfl, rfl, rfl⟩ := H
      have hnb39 := NB101_111.out
      have hnc39 := NB111_101.out
      have hcz40_0 : w34.cell? ⟨gb101, 0, none⟩ = some (.string (⟨#[]⟩ : ByteArray)) := (ai_ BK101.out 0).trans rfl
      have hcz40_1 : w34.cell? ⟨gb101, 1, none⟩ = some (.string (⟨#[]⟩ : ByteArray)) := (ai_ BK101.out 1).trans rfl
      have hcz40_2 : w34.cell? ⟨gb101, 2, none⟩ = some (.string (⟨#[]⟩ : ByteArray)) := (ai_ BK101.out 2).trans rfl
      have hfz40_0 := ab_ BK101.out 0
      have hfz40_1 := ab_ BK101.out 1
      have hfz40_2 := ab_ BK101.out 2
      go_wp2
      refine bodyPost_ret (bt_ rfl _ _ gb101 43 #[.string (⟨#[]⟩ : ByteArray), .string (⟨#[]⟩ : ByteArray), .string (⟨#[]⟩ : ByteArray)] (0, 0) _ rfl (by (with_reducible repeat (first | refine ae_ ?_ _ | refine am_ ?_ | refine af_ ?_ _)); refine aI_ (cs := #[.string (⟨#[]⟩ : ByteArray), .string (⟨#[]⟩ : ByteArray), .string (⟨#[]⟩ : ByteArray)]) ?_ 2 _ rfl; (with_reducible repeat (first | refine ae_ ?_ _ | refine am_ ?_ | refine af_ ?_ _)); refine aI_ (cs := #[.string (⟨#[]⟩ : ByteArray), .string (⟨#[]⟩ : ByteArray), .string (⟨#[]⟩ : ByteArray)]) ?_ 1 _ rfl; (with_reducible repeat (first | refine ae_ ?_ _ | refine am_ ?_ | refine af_ ?_ _)); refine aI_ (cs := #[.string (⟨#[]⟩ : ByteArray), .string (⟨#[]⟩ : ByteArray), .string (⟨#[]⟩ : ByteArray)]) ?_ 0 _ rfl; (with_reducible repeat (first | refine ae_ ?_ _ | refine am_ ?_ | refine af_ ?_ _)); exact BK101.out) Tryd.underlying43 rfl (by kernel_rfl)) rfl ?_
      exact ⟨by first | rfl | (simp [*, ap_, aq_] <;> rfl), by repeat (first | (with_reducible first | exact HB.out | apply bA_ | apply bN_ | apply bD_ | refine al_ ?_ GE101.out | refine al_ ?_ GE111.out) | exact HB.out)⟩
     subst c35
     have H1 : (some (rdOf ByteArray.empty t105 0, rdOf ByteArray.empty t105 1, rdOf ByteArray.empty t105 2, 0)) = some (r1, r2, r3, r4) := by rw [if_pos rfl] at H; exact H
     clear H
     have H := H1
     clear H1
     simp only [Option.some.injEq, Prod.mk.injEq] at H
     obtain ⟨rfl, rfl, rfl, rfl⟩ := H
     have hnb36 := NB111_101.out
     have hnc36 := NB101_111.out
     have hcz37_0 : w34.cell? ⟨gb111, 0, none⟩ = some (.string (rdOf ByteArray.empty t105 0)) := (ai_ BK111.out 0).trans rfl
     have hcz37_1 : w34.cell? ⟨gb111, 1, none⟩ = some (.string (rdOf ByteArray.empty t105 1)) := (ai_ BK111.out 1).trans rfl
     have hcz37_2 : w34.cell? ⟨gb111, 2, none⟩ = some (.string (rdOf ByteArray.empty t105 2)) := (ai_ BK111.out 2).trans rfl
     have hfz37_0 := ab_ BK111.out 0
     have hfz37_1 := ab_ BK111.out 1
     have hfz37_2 := ab_ BK111.out 2
     have hcz38_0 : w34.cell? ⟨gb101, 0, none⟩ = some (.string (⟨#[]⟩ : ByteArray)) := (ai_ BK101.out 0).trans rfl
     have hcz38_1 : w34.cell? ⟨gb101, 1, none⟩ = some (.string (⟨#[]⟩ : ByteArray)) := (ai_ BK101.out 1).trans rfl
     have hcz38_2 : w34.cell? ⟨gb101, 2, none⟩ = some (.string (⟨#[]⟩ : ByteArray)) := (ai_ BK101.out 2).trans rfl
     have hfz38_0 := ab_ BK101.out 0
     have hfz38_1 := ab_ BK101.out 1
     have hfz38_2 := ab_ BK101.out 2
     go_wp2
     refine bodyPost_ret (bt_ rfl _ _ gb101 43 #[.string (rdOf ByteArray.empty t105 0), .string (rdOf ByteArray.empty t105 1), .string (rdOf ByteArray.empty t105 2)] (0, 0) _ rfl (by (with_reducible repeat (first | refine ae_ ?_ _ | refine am_ ?_ | refine af_ ?_ _)); refine aI_ (cs := #[.string (rdOf ByteArray.empty t105 0), .string (rdOf ByteArray.empty t105 1), .string (⟨#[]⟩ : ByteArray)]) ?_ 2 _ rfl; (with_reducible repeat (first | refine ae_ ?_ _ | refine am_ ?_ | refine af_ ?_ _)); refine aI_ (cs := #[.string (rdOf ByteArray.empty t105 0), .string (⟨#[]⟩ : ByteArray), .string (⟨#[]⟩ : ByteArray)]) ?_ 1 _ rfl; (with_reducible repeat (first | refine ae_ ?_ _ | refine am_ ?_ | refine af_ ?_ _)); refine aI_ (cs := #[.string (⟨#[]⟩ : ByteArray), .string (⟨#[]⟩ : ByteArray), .string (⟨#[]⟩ : ByteArray)]) ?_ 0 _ rfl; (with_reducible repeat (first | refine ae_ ?_ _ | refine am_ ?_ | refine af_ ?_ _)); exact BK101.out) Tryd.underlying43 rfl (by kernel_rfl)) rfl ?_
     exact ⟨by first | rfl | (simp [*, ap_, aq_] <;> rfl), by repeat (first | (with_reducible first | exact HB.out | apply bA_ | apply bN_ | apply bD_ | refine al_ ?_ GE101.out | refine al_ ?_ GE111.out) | exact HB.out)⟩
    rw [if_pos c20] at H
    have c20b0 : decide ((t105.length : Int) < 3) = true := decide_eq_true c20
    have c20b1 : decide (t105.length < 3) = true := decide_eq_true (by omega)
    clear c20
    (first | rw [c20b0] | (simp only [i64_w, i32_w]; rw [c20b0]) | (simp only [c20b1, Bool.not_true, Bool.not_false]) | (simp only [c20b0, Bool.not_true, Bool.not_false]) | skip)
    simp only [Option.some.injEq, Prod.mk.injEq] at H
    obtain ⟨rfl, rfl, rfl, rfl⟩ := H
    have hcz21_0 : w18.cell? ⟨gb101, 0, none⟩ = some (.string (⟨#[]⟩ : ByteArray)) := (ai_ BK101.out 0).trans rfl
    have hcz21_1 : w18.cell? ⟨gb101, 1, none⟩ = some (.string (⟨#[]⟩ : ByteArray)) := (ai_ BK101.out 1).trans rfl
    have hcz21_2 : w18.cell? ⟨gb101, 2, none⟩ = some (.string (⟨#[]⟩ : ByteArray)) := (ai_ BK101.out 2).trans rfl
    have hfz21_0 := ab_ BK101.out 0
    have hfz21_1 := ab_ BK101.out 1
    have hfz21_2 := ab_ BK101.out 2
    go_wp2
    refine bodyPost_ret (bt_ rfl _ _ gb101 43 #[.string (⟨#[]⟩ : ByteArray), .string (⟨#[]⟩ : ByteArray), .string (⟨#[]⟩ : ByteArray)] (0, 0) _ rfl (by (with_reducible repeat (first | refine ae_ ?_ _ | refine am_ ?_ | refine af_ ?_ _)); refine aI_ (cs := #[.string (⟨#[]⟩ : ByteArray), .string (⟨#[]⟩ : ByteArray), .string (⟨#[]⟩ : ByteArray)]) ?_ 2 _ rfl; (with_reducible repeat (first | refine ae_ ?_ _ | refine am_ ?_ | refine af_ ?_ _)); refine aI_ (cs := #[.string (⟨#[]⟩ : ByteArray), .string (⟨#[]⟩ : ByteArray), .string (⟨#[]⟩ : ByteArray)]) ?_ 1 _ rfl; (with_reducible repeat (first | refine ae_ ?_ _ | refine am_ ?_ | refine af_ ?_ _)); refine aI_ (cs := #[.string (⟨#[]⟩ : ByteArray), .string (⟨#[]⟩ : ByteArray), .string (⟨#[]⟩ : ByteArray)]) ?_ 0 _ rfl; (with_reducible repeat (first | refine ae_ ?_ _ | refine am_ ?_ | refine af_ ?_ _)); exact BK101.out) Tryd.underlying43 rfl (by kernel_rfl)) rfl ?_
    exact ⟨by first | rfl | (simp [*, ap_, aq_] <;> rfl), by repeat (first | (with_reducible first | exact HB.out | apply bA_ | apply bN_ | apply bD_ | refine al_ ?_ GE101.out) | exact HB.out)⟩
   subst c7
   have H1 : (some ((⟨#[]⟩ : ByteArray), (⟨#[]⟩ : ByteArray), (⟨#[]⟩ : ByteArray), 9)) = some (r1, r2, r3, r4) := by rw [if_pos rfl] at H; exact H
   clear H
   have H := H1
   clear H1
   simp only [Option.some.injEq, Prod.mk.injEq] at H
   obtain ⟨rfl, rfl, rfl, rfl⟩ := H
   have hcz8_0 : wc.cell? ⟨gb101, 0, none⟩ = some (.string (⟨#[]⟩ : ByteArray)) := (ai_ BK101.out 0).trans rfl
   have hcz8_1 : wc.cell? ⟨gb101, 1, none⟩ = some (.string (⟨#[]⟩ : ByteArray)) := (ai_ BK101.out 1).trans rfl
   have hcz8_2 : wc.cell? ⟨gb101, 2, none⟩ = some (.string (⟨#[]⟩ : ByteArray)) := (ai_ BK101.out 2).trans rfl
   have hfz8_0 := ab_ BK101.out 0
   have hfz8_1 := ab_ BK101.out 1
   have hfz8_2 := ab_ BK101.out 2
   go_wp2
   refine bodyPost_ret (bt_ rfl _ _ gb101 43 #[.string (⟨#[]⟩ : ByteArray), .string (⟨#[]⟩ : ByteArray), .string (⟨#[]⟩ : ByteArray)] (0, 0) _ rfl (by (with_reducible repeat (first | refine ae_ ?_ _ | refine am_ ?_ | refine af_ ?_ _)); refine aI_ (cs := #[.string (⟨#[]⟩ : ByteArray), .string (⟨#[]⟩ : ByteArray), .string (⟨#[]⟩ : ByteArray)]) ?_ 2 _ rfl; (with_reducible repeat (first | refine ae_ ?_ _ | refine am_ ?_ | refine af_ ?_ _)); refine aI_ (cs := #[.string (⟨#[]⟩ : ByteArray), .string (⟨#[]⟩ : ByteArray), .string (⟨#[]⟩ : ByteArray)]) ?_ 1 _ rfl; (with_reducible repeat (first | refine ae_ ?_ _ | refine am_ ?_ | refine af_ ?_ _)); refine aI_ (cs := #[.string (⟨#[]⟩ : ByteArray), .string (⟨#[]⟩ : ByteArray), .string (⟨#[]⟩ : ByteArray)]) ?_ 0 _ rfl; (with_reducible repeat (first | refine ae_ ?_ _ | refine am_ ?_ | refine af_ ?_ _)); exact BK101.out) Tryd.underlying43 rfl (by kernel_rfl)) rfl ?_
   exact ⟨by first | rfl | (simp [*, ap_, aq_] <;> rfl), by repeat (first | (with_reducible first | exact HB.out | apply bA_ | apply bN_ | apply bD_ | refine al_ ?_ GE101.out) | exact HB.out)⟩
def stringslite_HasSuffix.f (a0 : ByteArray) (a1 : ByteArray) : Option (Bool) := if (a0.size : Int) ≥ (a1.size : Int) then (if 0 ≤ (wrap64 ((a0.size : Int) - (a1.size : Int))) then (if (wrap64 ((a0.size : Int) - (a1.size : Int))) ≤ (a0.size : Int) then (some ((a0.extract ((wrap64 ((a0.size : Int) - (a1.size : Int))) : Int).toNat a0.size).toList == a1.toList)) else (none)) else (none)) else (some false)
set_option maxHeartbeats 8000000 in
set_option maxRecDepth 100000 in
theorem stringslite_HasSuffix.calls (a0 : ByteArray) (a1 : ByteArray) (r : Bool) (w : World) (h : stringslite_HasSuffix.f a0 a1 = some r) :
  Calls Tryd.prog 56 #[.string a0, .string a1] w fun e w' => e = .returned (.bool r) ∧ ah_ w w' := by
 have H : (if (a0.size : Int) ≥ (a1.size : Int) then (if 0 ≤ (wrap64 ((a0.size : Int) - (a1.size : Int))) then (if (wrap64 ((a0.size : Int) - (a1.size : Int))) ≤ (a0.size : Int) then (some ((a0.extract ((wrap64 ((a0.size : Int) - (a1.size : Int))) : Int).toNat a0.size).toList == a1.toList)) else (none)) else (none)) else (some false)) = some r := h
 clear h
 by_cases c3 : (a0.size : Int) ≥ (a1.size : Int)
 rotate_left
 ·rw [if_neg c3] at H
  have c3b0 : decide ((a1.size : Int) ≤ (a0.size : Int)) = false := decide_eq_false c3
  have c3b1 : decide (a1.size ≤ a0.size) = false := decide_eq_false (fun h => c3 (Int.ofNat_le.mpr h))
  clear c3
  obtain rfl := Option.some.inj H
  go_enter Tryd.func56, Tryd.ntmps56
  go_wp2
  go_ret
  exact ⟨by first | rfl | (simp; done) | (simp [*]; done), by repeat (first | exact ah_.refl _ | apply ah_.step)⟩
 rw [if_pos c3] at H
 have c3b0 : decide ((a1.size : Int) ≤ (a0.size : Int)) = true := decide_eq_true c3
 have c3b1 : decide (a1.size ≤ a0.size) = true := decide_eq_true (Int.ofNat_le.mp c3)
 clear c3
 obtain ⟨ji4, hji4⟩ : ∃ j_ : Int, (wrap64 ((a0.size : Int) - (a1.size : Int))) = j_ := ⟨_, rfl⟩
 replace H : (if 0 ≤ (ji4) then (if (ji4) ≤ (a0.size : Int) then (some ((a0.extract ((ji4) : Int).toNat a0.size).toList == a1.toList)) else (none)) else (none)) = some r := by first | (rw [hji4] at H; exact H) | (simp only [hji4] at H ⊢; exact H)
 have hji4w : (IntKind.i64.wrap ((a0.size : Int) - (a1.size : Int))) = ji4 := (i64_w _).trans hji4
 by_cases c5 : 0 ≤ (ji4)
 rotate_left
 ·rw [if_neg c5] at H
  exact absurd H (by simp)
 rw [if_pos c5] at H
 have c5b0 := eq_true c5
 have c5b1 : decide (0 ≤ (ji4)) = true := decide_eq_true c5
 clear c5
 by_cases c6 : (ji4) ≤ (a0.size : Int)
 rotate_left
 ·rw [if_neg c6] at H
  exact absurd H (by simp)
 rw [if_pos c6] at H
 have c6b0 := eq_true c6
 have c6b1 : decide ((ji4) ≤ (a0.size : Int)) = true := decide_eq_true c6
 clear c6
 obtain rfl := Option.some.inj H
 go_enter Tryd.func56, Tryd.ntmps56
 go_wp2
 go_ret
 exact ⟨by first | rfl | (simp; done) | (simp only [← hji4] <;> (first | rfl | simp)) | (simp [*]; done), by repeat (first | exact ah_.refl _ | apply ah_.step)⟩
def strings_HasSuffix.f (a0 : ByteArray) (a1 : ByteArray) : Option (Bool) := (stringslite_HasSuffix.f a0 a1).bind fun t101 => (some t101)
set_option maxHeartbeats 8000000 in
set_option maxRecDepth 100000 in
theorem strings_HasSuffix.calls (a0 : ByteArray) (a1 : ByteArray) (r : Bool) (w : World) (h : strings_HasSuffix.f a0 a1 = some r) :
  Calls Tryd.prog 32 #[.string a0, .string a1] w fun e w' => e = .returned (.bool r) ∧ ah_ w w' := by
 have H : ((stringslite_HasSuffix.f a0 a1).bind fun t101 => (some t101)) = some r := h
 clear h
 replace H := Option.bind_eq_some_iff.mp H
 obtain ⟨t101, A30, H⟩ := H
 (try dsimp only at H)
 have A3 := Aside0.mk A30
 clear A30
 obtain rfl := Option.some.inj H
 go_enter Tryd.func32, Tryd.ntmps32
 go_wp2_with (first | ((with_reducible refine as_ (f := 56) rfl ?_); refine aY_ (some 7) rfl rfl Tryd.func56 (by kernel_rfl) rfl #[.string a0, .string a1] rfl (by first | rfl | (simp only [List.map_toArray, List.map_cons, List.map_nil]; first | done | rfl)) ?_; (with_reducible refine (stringslite_HasSuffix.calls a0 a1 t101 _ A3.out).mono ?_); rintro e w' ⟨rfl, ⟨nd, rfl⟩⟩; refine ⟨_, rfl, ?_⟩))
 go_ret
 exact ⟨by first | rfl | (simp; done) | (simp [*]; done), by repeat (first | exact ah_.refl _ | apply ah_.step)⟩
end Go.Proofs.YtjebkmfljcanlaaDoor.Q
