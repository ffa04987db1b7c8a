/- The statement FnExactMaterialOf: for all pictures and rates the program and the reference give the same cost of the veneers and the same code; what is handed over stays as it is. This text holds the functions' walks and the words for them. -/
import Derived.Test.YtpjhnchfhghlcaaKFnExactMaterialOfa
import Derived.Test.YtpjhnchfhghlcaaKFnExactMaterialOfb
set_option linter.unusedVariables false
set_option linter.unusedSimpArgs false
namespace Go.Proofs.Ytpjhnchfhghlcaa.Q
open Go.RowKit Go.Proofs.YtpjhnchfhghlcaaW.PrintWords Go.Proofs.YtpjhnchfhghlcaaW.PrintLast Go.Proofs.YtpjhnchfhghlcaaW.PrintMore
attribute [local go_sem] aB_ aE_ aN_ aO_ ax_ aw_ aD_ aC_
attribute [local go_sem high] eqA81
mutual
def aq_.j0 : Nat → List (S81) → Int → Bool → Option (Bool)
 | 0, _, _, _ => none
 | k + 1, x0, x3, x17 => if x17 = true then (some false) else (aq_.l0 k x0 x3 0)
def aq_.l0 : Nat → List (S81) → Int → Int → Option (Bool)
 | 0, _, _, _ => none
 | k + 1, x0, x3, x4 => if x4 < x3 then (if 0 ≤ x4 then (if x4 < (x0.length : Int) then ((spec_l02Ok.f ((ab_ x0 x4).f0) ((ab_ x0 x4).f1)).bind fun t102 => (if t102 = true then (aq_.l0 k x0 x3 (wrap64 (x4 + 1))) else (some false))) else (none)) else (none)) else (aq_.l1 k x0 x3 0)
def aq_.l1 : Nat → List (S81) → Int → Int → Option (Bool)
 | 0, _, _, _ => none
 | k + 1, x0, x3, x5 => if x5 < x3 then (if 0 ≤ x5 then (if x5 < (x0.length : Int) then (if x3 = 0 then (none) else (if 0 ≤ (Int.tmod (wrap64 (x5 + 1)) x3) then (if (Int.tmod (wrap64 (x5 + 1)) x3) < (x0.length : Int) then (if 0 ≤ (Int.tmod (wrap64 (x5 + 2)) x3) then (if (Int.tmod (wrap64 (x5 + 2)) x3) < (x0.length : Int) then (if (((ab_ x0 x5).f0) == ((ab_ x0 (Int.tmod (wrap64 (x5 + 1)) x3)).f0) && (((ab_ x0 x5).f1) == ((ab_ x0 (Int.tmod (wrap64 (x5 + 1)) x3)).f1))) = true then (aq_.j3 k x0 x3 x5 true ((ab_ x0 x5).f0) ((ab_ x0 x5).f1) ((ab_ x0 (Int.tmod (wrap64 (x5 + 1)) x3)).f0) ((ab_ x0 (Int.tmod (wrap64 (x5 + 1)) x3)).f1)) else ((aH_.f ((ab_ x0 x5).f0) ((ab_ x0 x5).f1) ((ab_ x0 (Int.tmod (wrap64 (x5 + 1)) x3)).f0) ((ab_ x0 (Int.tmod (wrap64 (x5 + 1)) x3)).f1) ((ab_ x0 (Int.tmod (wrap64 (x5 + 2)) x3)).f0) ((ab_ x0 (Int.tmod (wrap64 (x5 + 2)) x3)).f1)).bind fun t110 => (if t110 = true then (aq_.j3 k x0 x3 x5 true ((ab_ x0 x5).f0) ((ab_ x0 x5).f1) ((ab_ x0 (Int.tmod (wrap64 (x5 + 1)) x3)).f0) ((ab_ x0 (Int.tmod (wrap64 (x5 + 1)) x3)).f1)) else ((aH_.f ((ab_ x0 (Int.tmod (wrap64 (x5 + 1)) x3)).f0) ((ab_ x0 (Int.tmod (wrap64 (x5 + 1)) x3)).f1) ((ab_ x0 (Int.tmod (wrap64 (x5 + 2)) x3)).f0) ((ab_ x0 (Int.tmod (wrap64 (x5 + 2)) x3)).f1) ((ab_ x0 x5).f0) ((ab_ x0 x5).f1)).bind fun t111 => (aq_.j3 k x0 x3 x5 t111 ((ab_ x0 x5).f0) ((ab_ x0 x5).f1) ((ab_ x0 (Int.tmod (wrap64 (x5 + 1)) x3)).f0) ((ab_ x0 (Int.tmod (wrap64 (x5 + 1)) x3)).f1)))))) else (none)) else (none)) else (none)) else (none))) else (none)) else (none)) else ((bx_.f k x0).bind fun t103 => (some (decide (t103 > 0))))
def aq_.j3 : Nat → List (S81) → Int → Int → Bool → Int → Int → Int → Int → Option (Bool)
 | 0, _, _, _, _, _, _, _, _ => none
 | k + 1, x0, x3, x5, x66, x106000, x106001, x108000, x108001 => if x66 = true then (some false) else (aq_.l2 k x0 x3 x5 (wrap64 (x5 + 2)) x106000 x106001 x108000 x108001)
def aq_.l2 : Nat → List (S81) → Int → Int → Int → Int → Int → Int → Int → Option (Bool)
 | 0, _, _, _, _, _, _, _, _ => none
 | k + 1, x0, x3, x5, x9, x106000, x106001, x108000, x108001 => if x9 < x3 then (if x3 = 0 then (none) else (if (Int.tmod (wrap64 (x9 + 1)) x3) = x5 then (aq_.l2 k x0 x3 x5 (wrap64 (x9 + 1)) x106000 x106001 x108000 x108001) else (if 0 ≤ x9 then (if x9 < (x0.length : Int) then (if 0 ≤ (Int.tmod (wrap64 (x9 + 1)) x3) then (if (Int.tmod (wrap64 (x9 + 1)) x3) < (x0.length : Int) then ((cN_.f x106000 x106001 x108000 x108001 ((ab_ x0 x9).f0) ((ab_ x0 x9).f1) ((ab_ x0 (Int.tmod (wrap64 (x9 + 1)) x3)).f0) ((ab_ x0 (Int.tmod (wrap64 (x9 + 1)) x3)).f1)).bind fun t114 => (if t114 = true then (some false) else (aq_.l2 k x0 x3 x5 (wrap64 (x9 + 1)) x106000 x106001 x108000 x108001))) else (none)) else (none)) else (none)) else (none)))) else (aq_.l1 k x0 x3 (wrap64 (x5 + 1)))
end
def aq_.f (k : Nat) (l0 : List (S81)) : Option (Bool) := if (l0.length : Int) < 3 then (aq_.j0 k l0 (l0.length : Int) true) else (aq_.j0 k l0 (l0.length : Int) (decide ((l0.length : Int) > 24)))
def aq_.T20 : Bool × List (List Nat × List Nat) := (true, [([], []), ([0], [0]), ([], []), ([1, 2], [1, 2]), ([], []), ([3, 4], [3, 4]), ([5], [5]), ([6], [6]), ([6], [6]), ([6], [6]), ([6], [6]), ([9, 10, 6], [6, 9, 10]), ([11, 6], [6, 11]), ([6], [6]), ([6], [6]), ([14, 6], [6, 14]), ([6], [6]), ([15, 16, 6], [6, 15, 16]), ([13, 17, 6], [6, 13, 17]), ([18, 6], [6, 18]), ([7, 8, 12, 19, 6, 6], [6, 7, 8, 12, 19]), ([6, 20], [6, 20])])
def aq_.B20 : List Nat := [0, 1, 0, 7, 0, 31, 63, 127, 127, 127, 127, 1663, 3711, 127, 127, 16511, 127, 114815, 254079, 516223, 1048575, 2097151]
theorem aq_.tab20 : rtab .any (opsOf Try.f63 20) = aq_.T20 := by kernel_rfl
theorem aq_.bits20 : cj_ aq_.T20.2 aq_.B20 = true := by kernel_rfl
set_option maxHeartbeats 8000000 in
set_option maxRecDepth 100000 in
theorem aq_.calls (k : Nat) (A0 : Option Addr) (c0 : Nat) (l0 : List (S81)) (r : Bool) (w : World) (hr0 : Kd.C k81 w A0 l0.length l0) (hc0 : l0.length ≤ c0) (h : aq_.f k l0 = some r) :
  Calls Try.prog 63 #[.slice A0 l0.length c0] w fun e w' => e = .returned (.bool r) ∧ Below w.heap.size w w' := by
 have hu81 := Try.underlying81
 have HR0 := Aside0.mk hr0
 have HC0 := Aside0.mk hc0
 clear hr0 hc0
 have HB := Aside0.mk (Below.refl w.heap.size w)
 have H : (if (l0.length : Int) < 3 then (aq_.j0 k l0 (l0.length : Int) true) else (aq_.j0 k l0 (l0.length : Int) (decide ((l0.length : Int) > 24)))) = some r := h
 clear h
 have HC2 := Aside0.mk H
 clear H
 go_enter Try.func63, Try.ntmps63
 go_upto_region 2 with (fail)
 go_cut [17] (fun v17 wc => ∃ (kq : Nat) (x17_1 : Bool), v17 = .bool x17_1 ∧ Aside0 (aq_.j0 kq l0 (l0.length : Int) x17_1 = some r) ∧ Aside0 (kq ≤ k) ∧ Aside0 (Below w.heap.size w wc))
 case first =>
  have H := HC2.out
  clear HC2
  by_cases c3 : (l0.length : Int) < 3
  rotate_left
  ·rw [if_neg c3] at H
   have c3b0 : decide ((l0.length : Int) < 3) = false := decide_eq_false c3
   have c3b1 : decide (l0.length < 3) = false := decide_eq_false (by omega)
   clear c3
   (first | rw [c3b0] | (simp only [i64_w, i32_w]; rw [c3b0]) | (simp only [c3b1, Bool.not_true, Bool.not_false]) | (simp only [c3b0, Bool.not_true, Bool.not_false]) | skip)
   have H' := Aside0.mk H
   clear H
   go_wp2
   go_meet
   case rel => exact ⟨_, (decide ((l0.length : Int) > 24)), (by first | rfl | (simp; done) | (simp [*]; done)), H', ⟨by first | omega | exact Nat.le_refl _⟩, ⟨bz HB.out⟩⟩
  rw [if_pos c3] at H
  have c3b0 : decide ((l0.length : Int) < 3) = true := decide_eq_true c3
  have c3b1 : decide (l0.length < 3) = true := decide_eq_true (by omega)
  clear c3
  (first | rw [c3b0] | (simp only [i64_w, i32_w]; rw [c3b0]) | (simp only [c3b1, Bool.not_true, Bool.not_false]) | (simp only [c3b0, Bool.not_true, Bool.not_false]) | skip)
  have H' := Aside0.mk H
  clear H
  go_wp2
  go_meet
  case rel => exact ⟨_, (true), (by first | rfl | (simp; done) | (simp [*]; done)), H', ⟨by first | omega | exact Nat.le_refl _⟩, ⟨bz HB.out⟩⟩
 case rest =>
  clear HC2
  obtain ⟨kq, x17_1, rfl, HA, HJ1, HB⟩ := hcut
  cases kq with
  | zero => exact absurd HA.out (by simp [aq_.j0])
  | succ kj1 =>
   have H := HA.out
   clear HA
   simp only [aq_.j0] at H
   by_cases c4 : x17_1 = true
   rotate_left
   ·replace c4 := Bool.eq_false_iff.mpr c4
    subst c4
    have H1 : (aq_.l0 kj1 l0 (l0.length : Int) 0) = some r := by rw [if_neg (show ¬ (false = true) by decide)] at H; exact H
    clear H
    have H := H1
    clear H1
    have H' := Aside0.mk H
    clear H
    go_wp2
    (try simp only [Act.put, lsa_, ls0_, ls1_])
    go_loopg [4] kj1 (fun kq v4 w' => ∃ (x4_2 : Int), v4 = .int .i64 x4_2 ∧ Aside0 (aq_.l0 kq l0 (l0.length : Int) x4_2 = some r) ∧ Aside0 (kq ≤ kj1) ∧ Aside0 (Below w.heap.size w w'))
    case atStart => exact ⟨(0), (by first | rfl | (simp; done) | (simp [*]; done)), H', ⟨Nat.le_refl _⟩, ⟨bz HB.out⟩⟩
    case round =>
     clear H'
     obtain ⟨x4_2, rfl, HA, HK2, HB⟩ := hrel
     cases gk with
     | zero => exact absurd HA.out (by simp [aq_.l0])
     | succ k2 =>
      have H := HA.out
      clear HA
      simp only [aq_.l0] at H
      by_cases c5 : x4_2 < (l0.length : Int)
      rotate_left
      ·rw [if_neg c5] at H
       have c5b0 : decide (x4_2 < (l0.length : Int)) = false := decide_eq_false c5
       clear c5
       have H' := Aside0.mk H
       clear H
       go_wp2
       (try simp only [Act.put, lsa_, ls0_, ls1_])
       go_loopg [5] k2 (fun kq v5 w' => ∃ (x5_3 : Int), v5 = .int .i64 x5_3 ∧ Aside0 (aq_.l1 kq l0 (l0.length : Int) x5_3 = some r) ∧ Aside0 (kq ≤ k2) ∧ Aside0 (Below w.heap.size w w'))
       case atStart => exact ⟨(0), (by first | rfl | (simp; done) | (simp [*]; done)), H', ⟨Nat.le_refl _⟩, ⟨bz HB.out⟩⟩
       case round =>
        clear H'
        obtain ⟨x5_3, rfl, HA, HK3, HB⟩ := hrel
        cases gk with
        | zero => exact absurd HA.out (by simp [aq_.l1])
        | succ k3 =>
         have H := HA.out
         clear HA
         simp only [aq_.l1] at H
         by_cases c12 : x5_3 < (l0.length : Int)
         rotate_left
         ·rw [if_neg c12] at H
          have c12b0 : decide (x5_3 < (l0.length : Int)) = false := decide_eq_false c12
          clear c12
          replace H := Option.bind_eq_some_iff.mp H
          obtain ⟨t103, A740, H⟩ := H
          (try dsimp only at H)
          have A74 := Aside0.mk A740
          clear A740
          obtain rfl := Option.some.inj H
          go_wp2_with (first | ((with_reducible refine an_ (f := 29) rfl ?_); refine aU_ (some 97) rfl rfl Try.func29 (by kernel_rfl) rfl #[.slice A0 l0.length c0] rfl (by first | rfl | (simp only [lma_, lmc_, lmn_]; first | done | rfl)) ?_; (with_reducible refine (bx_.calls k3 _ _ l0 t103 _ ?side1 ?side2 A74.out).mono ?_); (case side1 => exact cz (Kd.aF_ HR0.out HB.out)); (case side2 => exact HC0.out); rintro e w75 ⟨rfl, hb⟩; refine ⟨_, rfl, ?_⟩; replace HB := Aside0.mk (ad_ (bz HB.out) hb); (try clear hb)))
          go_ret
          exact ⟨by first | rfl | (simp [*, ah_, ai_] <;> rfl), bz HB.out⟩
         rw [if_pos c12] at H
         have c12b0 : decide (x5_3 < (l0.length : Int)) = true := decide_eq_true c12
         clear c12
         by_cases c13 : 0 ≤ x5_3
         rotate_left
         ·rw [if_neg c13] at H
          exact absurd H (by simp)
         rw [if_pos c13] at H
         have c13b0 : decide (0 ≤ x5_3) = true := decide_eq_true c13
         clear c13
         by_cases c14 : x5_3 < (l0.length : Int)
         rotate_left
         ·rw [if_neg c14] at H
          exact absurd H (by simp)
         rw [if_pos c14] at H
         have c14b0 : decide (x5_3 < (l0.length : Int)) = true := decide_eq_true c14
         clear c14
         by_cases c15 : (l0.length : Int) = 0
         rotate_left
         ·rw [if_neg c15] at H
          have c15b0 : ((l0.length : Int) == 0) = false := beq_eq_false_iff_ne.mpr c15
          have c15b1 : ((l0.length : Int) != 0) = true := bne_iff_ne.mpr c15
          have c15b2 : ¬ (l0 = []) := fun h_ => c15 (by rw [h_]; rfl)
          obtain ⟨ji16, hji16⟩ : ∃ j_ : Int, (Int.tmod (wrap64 (x5_3 + 1)) (l0.length : Int)) = j_ := ⟨_, rfl⟩
          replace H : (if 0 ≤ (ji16) then (if (ji16) < (l0.length : Int) then (if 0 ≤ (Int.tmod (wrap64 (x5_3 + 2)) (l0.length : Int)) then (if (Int.tmod (wrap64 (x5_3 + 2)) (l0.length : Int)) < (l0.length : Int) then (if (((ab_ l0 x5_3).f0) == ((ab_ l0 (ji16)).f0) && (((ab_ l0 x5_3).f1) == ((ab_ l0 (ji16)).f1))) = true then (aq_.j3 k3 l0 (l0.length : Int) x5_3 true ((ab_ l0 x5_3).f0) ((ab_ l0 x5_3).f1) ((ab_ l0 (ji16)).f0) ((ab_ l0 (ji16)).f1)) else ((aH_.f ((ab_ l0 x5_3).f0) ((ab_ l0 x5_3).f1) ((ab_ l0 (ji16)).f0) ((ab_ l0 (ji16)).f1) ((ab_ l0 (Int.tmod (wrap64 (x5_3 + 2)) (l0.length : Int))).f0) ((ab_ l0 (Int.tmod (wrap64 (x5_3 + 2)) (l0.length : Int))).f1)).bind fun t110 => (if t110 = true then (aq_.j3 k3 l0 (l0.length : Int) x5_3 true ((ab_ l0 x5_3).f0) ((ab_ l0 x5_3).f1) ((ab_ l0 (ji16)).f0) ((ab_ l0 (ji16)).f1)) else ((aH_.f ((ab_ l0 (ji16)).f0) ((ab_ l0 (ji16)).f1) ((ab_ l0 (Int.tmod (wrap64 (x5_3 + 2)) (l0.length : Int))).f0) ((ab_ l0 (Int.tmod (wrap64 (x5_3 + 2)) (l0.length : Int))).f1) ((ab_ l0 x5_3).f0) ((ab_ l0 x5_3).f1)).bind fun t111 => (aq_.j3 k3 l0 (l0.length : Int) x5_3 t111 ((ab_ l0 x5_3).f0) ((ab_ l0 x5_3).f1) ((ab_ l0 (ji16)).f0) ((ab_ l0 (ji16)).f1)))))) else (none)) else (none)) else (none)) else (none)) = some r := by first | (rw [hji16] at H; exact H) | (simp only [hji16] at H ⊢; exact H)
          by_cases c17 : 0 ≤ (ji16)
          rotate_left
          ·rw [if_neg c17] at H
           exact absurd H (by simp)
          rw [if_pos c17] at H
          have c17b0 : decide (0 ≤ (ji16)) = true := decide_eq_true c17
          clear c17
          by_cases c18 : (ji16) < (l0.length : Int)
          rotate_left
          ·rw [if_neg c18] at H
           exact absurd H (by simp)
          rw [if_pos c18] at H
          have c18b0 : decide ((ji16) < (l0.length : Int)) = true := decide_eq_true c18
          clear c18
          obtain ⟨ji19, hji19⟩ : ∃ j_ : Int, (Int.tmod (wrap64 (x5_3 + 2)) (l0.length : Int)) = j_ := ⟨_, rfl⟩
          replace H : (if 0 ≤ (ji19) then (if (ji19) < (l0.length : Int) then (if (((ab_ l0 x5_3).f0) == ((ab_ l0 (ji16)).f0) && (((ab_ l0 x5_3).f1) == ((ab_ l0 (ji16)).f1))) = true then (aq_.j3 k3 l0 (l0.length : Int) x5_3 true ((ab_ l0 x5_3).f0) ((ab_ l0 x5_3).f1) ((ab_ l0 (ji16)).f0) ((ab_ l0 (ji16)).f1)) else ((aH_.f ((ab_ l0 x5_3).f0) ((ab_ l0 x5_3).f1) ((ab_ l0 (ji16)).f0) ((ab_ l0 (ji16)).f1) ((ab_ l0 (ji19)).f0) ((ab_ l0 (ji19)).f1)).bind fun t110 => (if t110 = true then (aq_.j3 k3 l0 (l0.length : Int) x5_3 true ((ab_ l0 x5_3).f0) ((ab_ l0 x5_3).f1) ((ab_ l0 (ji16)).f0) ((ab_ l0 (ji16)).f1)) else ((aH_.f ((ab_ l0 (ji16)).f0) ((ab_ l0 (ji16)).f1) ((ab_ l0 (ji19)).f0) ((ab_ l0 (ji19)).f1) ((ab_ l0 x5_3).f0) ((ab_ l0 x5_3).f1)).bind fun t111 => (aq_.j3 k3 l0 (l0.length : Int) x5_3 t111 ((ab_ l0 x5_3).f0) ((ab_ l0 x5_3).f1) ((ab_ l0 (ji16)).f0) ((ab_ l0 (ji16)).f1)))))) else (none)) else (none)) = some r := by first | (rw [hji19] at H; exact H) | (simp only [hji19] at H ⊢; exact H)
          by_cases c20 : 0 ≤ (ji19)
          rotate_left
          ·rw [if_neg c20] at H
           exact absurd H (by simp)
          rw [if_pos c20] at H
          have c20b0 : decide (0 ≤ (ji19)) = true := decide_eq_true c20
          clear c20
          by_cases c21 : (ji19) < (l0.length : Int)
          rotate_left
          ·rw [if_neg c21] at H
           exact absurd H (by simp)
          rw [if_pos c21] at H
          have c21b0 : decide ((ji19) < (l0.length : Int)) = true := decide_eq_true c21
          clear c21
          have HC22 := Aside0.mk H
          clear H
          have p104 : 0 ≤ (x5_3 : Int) := of_decide_eq_true (by assumption)
          have q104 : x5_3 < (l0.length : Int) := of_decide_eq_true (by assumption)
          obtain ⟨ad104, e104, hx104_0, hx104_1⟩ := bX_ HR0.out x5_3 p104 q104
          cases e104
          replace hx104_0 := bu_ HB.out hx104_0
          replace hx104_1 := bu_ HB.out hx104_1
          replace p104 := eq_true p104
          replace q104 := eq_true q104
          go_upto_region 15 with (first | ((with_reducible refine al_ (N := 6) rfl ?_); refine ak_ ?hg (N := 6) ?hd (cs := #[.int .i64 0, .int .i64 0]) (t := 81) ?hr ?_; (case hd => rfl); (case hg => rfl); (case hr => (go_simp; try rfl)); intro gb105 hg w23 hbox hb; have BK105 := Aside0.mk (hbox); have GW105 := Aside0.mk ((by rw [hg]; exact (ae_ (bz HB.out)) : w.heap.size ≤ gb105)); have GE105 := GW105; replace HB := Aside0.mk (ad_ (bz HB.out) hb); clear hb hbox hg; obtain ⟨hcz24_0, hcz24_1⟩ := cz2_ BK105.out; obtain ⟨hfz24_0, hfz24_1⟩ := fz2_ BK105.out; have p106 : 0 ≤ ((ji16) : Int) := of_decide_eq_true (by assumption); have q106 : (ji16) < (l0.length : Int) := of_decide_eq_true (by assumption); obtain ⟨ad106, e106, hx106_0, hx106_1⟩ := bX_ HR0.out (ji16) p106 q106; obtain rfl : ad104 = ad106 := (by injection e106); have hn106_0 : ad104.block ≠ gb105 := Nat.ne_of_lt (Nat.lt_of_lt_of_le (by have := bl_ _ _ hx106_0; first | rwa [add_block] at this | exact this) GW105.out); have hn106_1 : ad104.block ≠ gb105 := Nat.ne_of_lt (Nat.lt_of_lt_of_le (by have := bl_ _ _ hx106_0; first | rwa [add_block] at this | exact this) GW105.out); replace hx106_0 := bu_ HB.out hx106_0; replace hx106_1 := bu_ HB.out hx106_1; replace hx106_0 := (cell_far (p := ⟨gb105, 0, none⟩) (by first | (rw [add_block]; exact hn106_0) | (show (Addr.add _ _).block ≠ _; rw [add_block]; exact hn106_0) | exact hn106_0) (.int .i64 ((ab_ l0 x5_3).f0))).trans hx106_0; replace hx106_1 := (cell_far (p := ⟨gb105, 0, none⟩) (by first | (rw [add_block]; exact hn106_0) | (show (Addr.add _ _).block ≠ _; rw [add_block]; exact hn106_0) | exact hn106_0) (.int .i64 ((ab_ l0 x5_3).f0))).trans hx106_1; replace hx106_0 := (cell_far (p := ⟨gb105, 1, none⟩) (by first | (rw [add_block]; exact hn106_1) | (show (Addr.add _ _).block ≠ _; rw [add_block]; exact hn106_1) | exact hn106_1) (.int .i64 ((ab_ l0 x5_3).f1))).trans hx106_0; replace hx106_1 := (cell_far (p := ⟨gb105, 1, none⟩) (by first | (rw [add_block]; exact hn106_1) | (show (Addr.add _ _).block ≠ _; rw [add_block]; exact hn106_1) | exact hn106_1) (.int .i64 ((ab_ l0 x5_3).f1))).trans hx106_1; clear hn106_0; clear hn106_1; replace p106 := eq_true p106; replace q106 := eq_true q106) | ((with_reducible refine al_ (N := 7) rfl ?_); refine ak_ ?hg (N := 7) ?hd (cs := #[.int .i64 0, .int .i64 0]) (t := 81) ?hr ?_; (case hd => rfl); (case hg => rfl); (case hr => (go_simp; try rfl)); intro gb107 hg w25 hbox hb; have BK107 := Aside0.mk (hbox); have GW107 := Aside0.mk ((by rw [hg]; exact (ae_ (bq)) : w.heap.size ≤ gb107)); have GE107 := GW107; replace HB := Aside0.mk (ad_ (bq) hb); have NB105_107 := Aside0.mk ((by rw [hg]; exact Nat.ne_of_lt (aj_ (g := gb105) (o := .cells #[.int .i64 ((ab_ l0 x5_3).f0), .int .i64 ((ab_ l0 x5_3).f1)] 81 (0, 0)) (by exact kj2_1 (kj2_0 (kz BK105.out)))) : gb105 ≠ gb107)); have NB107_105 := Aside0.mk ((by rw [hg]; exact Nat.ne_of_gt (aj_ (g := gb105) (o := .cells #[.int .i64 ((ab_ l0 x5_3).f0), .int .i64 ((ab_ l0 x5_3).f1)] 81 (0, 0)) (by exact kj2_1 (kj2_0 (kz BK105.out)))) : gb107 ≠ gb105)); replace BK105 := Aside0.mk (aa_ (g := gb105) (o := .cells #[.int .i64 ((ab_ l0 x5_3).f0), .int .i64 ((ab_ l0 x5_3).f1)] 81 (0, 0)) (by exact kj2_1 (kj2_0 (kz BK105.out))) hb); clear hb hbox hg; have hnb26 := NB107_105.out; have hnc26 := NB105_107.out; obtain ⟨hcz27_0, hcz27_1⟩ := cz2_ BK107.out; obtain ⟨hfz27_0, hfz27_1⟩ := fz2_ BK107.out; have p108 : 0 ≤ ((ji19) : Int) := of_decide_eq_true (by assumption); have q108 : (ji19) < (l0.length : Int) := of_decide_eq_true (by assumption); obtain ⟨ad108, e108, hx108_0, hx108_1⟩ := bX_ HR0.out (ji19) p108 q108; obtain rfl : ad104 = ad108 := (by injection e108); have hn108_0 : ad104.block ≠ gb107 := Nat.ne_of_lt (Nat.lt_of_lt_of_le (by have := bl_ _ _ hx108_0; first | rwa [add_block] at this | exact this) GW107.out); have hn108_1 : ad104.block ≠ gb107 := Nat.ne_of_lt (Nat.lt_of_lt_of_le (by have := bl_ _ _ hx108_0; first | rwa [add_block] at this | exact this) GW107.out); replace hx108_0 := bu_ HB.out hx108_0; replace hx108_1 := bu_ HB.out hx108_1; replace hx108_0 := (cell_far (p := ⟨gb107, 0, none⟩) (by first | (rw [add_block]; exact hn108_0) | (show (Addr.add _ _).block ≠ _; rw [add_block]; exact hn108_0) | exact hn108_0) (.int .i64 ((ab_ l0 (ji16)).f0))).trans hx108_0; replace hx108_1 := (cell_far (p := ⟨gb107, 0, none⟩) (by first | (rw [add_block]; exact hn108_0) | (show (Addr.add _ _).block ≠ _; rw [add_block]; exact hn108_0) | exact hn108_0) (.int .i64 ((ab_ l0 (ji16)).f0))).trans hx108_1; replace hx108_0 := (cell_far (p := ⟨gb107, 1, none⟩) (by first | (rw [add_block]; exact hn108_1) | (show (Addr.add _ _).block ≠ _; rw [add_block]; exact hn108_1) | exact hn108_1) (.int .i64 ((ab_ l0 (ji16)).f1))).trans hx108_0; replace hx108_1 := (cell_far (p := ⟨gb107, 1, none⟩) (by first | (rw [add_block]; exact hn108_1) | (show (Addr.add _ _).block ≠ _; rw [add_block]; exact hn108_1) | exact hn108_1) (.int .i64 ((ab_ l0 (ji16)).f1))).trans hx108_1; clear hn108_0; clear hn108_1; replace p108 := eq_true p108; replace q108 := eq_true q108) | ((with_reducible refine al_ (N := 8) rfl ?_); refine ak_ ?hg (N := 8) ?hd (cs := #[.int .i64 0, .int .i64 0]) (t := 81) ?hr ?_; (case hd => rfl); (case hg => rfl); (case hr => (go_simp; try rfl)); intro gb109 hg w28 hbox hb; have BK109 := Aside0.mk (hbox); have GW109 := Aside0.mk ((by rw [hg]; exact (ae_ (bq)) : w.heap.size ≤ gb109)); have GE109 := GW109; replace HB := Aside0.mk (ad_ (bq) hb); have NB105_109 := Aside0.mk ((by rw [hg]; exact Nat.ne_of_lt (aj_ (g := gb105) (o := .cells #[.int .i64 ((ab_ l0 x5_3).f0), .int .i64 ((ab_ l0 x5_3).f1)] 81 (0, 0)) (by exact kf (kf (kz BK105.out) NB105_107.out) NB105_107.out)) : gb105 ≠ gb109)); have NB109_105 := Aside0.mk ((by rw [hg]; exact Nat.ne_of_gt (aj_ (g := gb105) (o := .cells #[.int .i64 ((ab_ l0 x5_3).f0), .int .i64 ((ab_ l0 x5_3).f1)] 81 (0, 0)) (by exact kf (kf (kz BK105.out) NB105_107.out) NB105_107.out)) : gb109 ≠ gb105)); replace BK105 := Aside0.mk (aa_ (g := gb105) (o := .cells #[.int .i64 ((ab_ l0 x5_3).f0), .int .i64 ((ab_ l0 x5_3).f1)] 81 (0, 0)) (by exact kf (kf (kz BK105.out) NB105_107.out) NB105_107.out) hb); have NB107_109 := Aside0.mk ((by rw [hg]; exact Nat.ne_of_lt (aj_ (g := gb107) (o := .cells #[.int .i64 ((ab_ l0 (ji16)).f0), .int .i64 ((ab_ l0 (ji16)).f1)] 81 (0, 0)) (by exact kj2_1 (kj2_0 (kz BK107.out)))) : gb107 ≠ gb109)); have NB109_107 := Aside0.mk ((by rw [hg]; exact Nat.ne_of_gt (aj_ (g := gb107) (o := .cells #[.int .i64 ((ab_ l0 (ji16)).f0), .int .i64 ((ab_ l0 (ji16)).f1)] 81 (0, 0)) (by exact kj2_1 (kj2_0 (kz BK107.out)))) : gb109 ≠ gb107)); replace BK107 := Aside0.mk (aa_ (g := gb107) (o := .cells #[.int .i64 ((ab_ l0 (ji16)).f0), .int .i64 ((ab_ l0 (ji16)).f1)] 81 (0, 0)) (by exact kj2_1 (kj2_0 (kz BK107.out))) hb); clear hb hbox hg; have hnb29 := NB109_105.out; have hnc29 := NB105_109.out; have hnb30 := NB109_107.out; have hnc30 := NB107_109.out; obtain ⟨hcz31_0, hcz31_1⟩ := cz2_ BK109.out; obtain ⟨hfz31_0, hfz31_1⟩ := fz2_ BK109.out))
          (try simp only [Act.put, lsa_, ls0_, ls1_])
          go_cut [66] (fun v66 wc => ∃ (kq : Nat) (x66_21 : Bool), v66 = .bool x66_21 ∧ Aside0 (aq_.j3 kq l0 (l0.length : Int) x5_3 x66_21 ((ab_ l0 x5_3).f0) ((ab_ l0 x5_3).f1) ((ab_ l0 (ji16)).f0) ((ab_ l0 (ji16)).f1) = some r) ∧ Aside0 (kq ≤ k3) ∧ Aside0 (wc.heap[gb105]? = some (.cells #[.int .i64 ((ab_ l0 x5_3).f0), .int .i64 ((ab_ l0 x5_3).f1)] 81 (0, 0))) ∧ Aside0 (wc.heap[gb107]? = some (.cells #[.int .i64 ((ab_ l0 (ji16)).f0), .int .i64 ((ab_ l0 (ji16)).f1)] 81 (0, 0))) ∧ Aside0 (wc.heap[gb109]? = some (.cells #[.int .i64 ((ab_ l0 (ji19)).f0), .int .i64 ((ab_ l0 (ji19)).f1)] 81 (0, 0))) ∧ Aside0 (Below w.heap.size w wc))
          case first =>
           have H := HC22.out
           clear HC22
           by_cases c32 : (((ab_ l0 x5_3).f0) == ((ab_ l0 (ji16)).f0) && (((ab_ l0 x5_3).f1) == ((ab_ l0 (ji16)).f1))) = true
           rotate_left
           ·rw [if_neg c32] at H
            have c32b0 : (((ab_ l0 x5_3).f0) == ((ab_ l0 (ji16)).f0) && (((ab_ l0 x5_3).f1) == ((ab_ l0 (ji16)).f1))) = false := by simpa using c32
            (try (have c32b1 : decide (((ab_ l0 x5_3).f0) = ((ab_ l0 (ji16)).f0) && (((ab_ l0 x5_3).f1) == ((ab_ l0 (ji16)).f1))) = false := by simpa using c32))
            (try (have c32b2 : (((ab_ l0 x5_3).f0) == ((ab_ l0 (ji16)).f0) && (((ab_ l0 x5_3).f1) == ((ab_ l0 (ji16)).f1))) = false := by simpa using c32))
            (try (have c32b3 : ¬ (((ab_ l0 x5_3).f0) = ((ab_ l0 (ji16)).f0) && (((ab_ l0 x5_3).f1) == ((ab_ l0 (ji16)).f1))) := by simpa using c32))
            clear c32
            (first | rw [c32b0] | (simp only [i64_w, i32_w]; rw [c32b0]) | (simp only [c32b1, Bool.not_true, Bool.not_false]) | (simp only [c32b0, Bool.not_true, Bool.not_false]) | skip)
            replace H := Option.bind_eq_some_iff.mp H
            obtain ⟨t110, A380, H⟩ := H
            (try dsimp only at H)
            have A38 := Aside0.mk A380
            clear A380
            by_cases c39 : t110 = true
            rotate_left
            ·replace c39 := Bool.eq_false_iff.mpr c39
             subst c39
             have H1 : ((aH_.f ((ab_ l0 (ji16)).f0) ((ab_ l0 (ji16)).f1) ((ab_ l0 (ji19)).f0) ((ab_ l0 (ji19)).f1) ((ab_ l0 x5_3).f0) ((ab_ l0 x5_3).f1)).bind fun t111 => (aq_.j3 k3 l0 (l0.length : Int) x5_3 t111 ((ab_ l0 x5_3).f0) ((ab_ l0 x5_3).f1) ((ab_ l0 (ji16)).f0) ((ab_ l0 (ji16)).f1))) = some r := by rw [if_neg (show ¬ (false = true) by decide)] at H; exact H
             clear H
             have H := H1
             clear H1
             replace H := Option.bind_eq_some_iff.mp H
             obtain ⟨t111, A470, H⟩ := H
             (try dsimp only at H)
             have A47 := Aside0.mk A470
             clear A470
             have H' := Aside0.mk H
             clear H
             have hnb48 := NB105_107.out
             have hnc48 := NB107_105.out
             have hnb49 := NB105_109.out
             have hnc49 := NB109_105.out
             obtain ⟨hcz50_0, hcz50_1⟩ := cz2_ BK105.out
             obtain ⟨hfz50_0, hfz50_1⟩ := fz2_ BK105.out
             have hnb51 := NB107_109.out
             have hnc51 := NB109_107.out
             obtain ⟨hcz52_0, hcz52_1⟩ := cz2_ BK107.out
             obtain ⟨hfz52_0, hfz52_1⟩ := fz2_ BK107.out
             obtain ⟨hcz53_0, hcz53_1⟩ := cz2_ BK109.out
             obtain ⟨hfz53_0, hfz53_1⟩ := fz2_ BK109.out
             go_wp2_with (first | (go_at_call 76; (with_reducible refine (aH_.calls ((ab_ l0 x5_3).f0) ((ab_ l0 x5_3).f1) ((ab_ l0 (ji16)).f0) ((ab_ l0 (ji16)).f1) ((ab_ l0 (ji19)).f0) ((ab_ l0 (ji19)).f1) false _ A38.out).mono ?_); rintro e w54 ⟨rfl, hb⟩; replace BK105 := Aside0.mk (aa_ (g := gb105) (o := .cells #[.int .i64 ((ab_ l0 x5_3).f0), .int .i64 ((ab_ l0 x5_3).f1)] 81 (0, 0)) (by exact kf (kf (kz BK105.out) NB105_109.out) NB105_109.out) hb); replace BK107 := Aside0.mk (aa_ (g := gb107) (o := .cells #[.int .i64 ((ab_ l0 (ji16)).f0), .int .i64 ((ab_ l0 (ji16)).f1)] 81 (0, 0)) (by exact kf (kf (kz BK107.out) NB107_109.out) NB107_109.out) hb); replace BK109 := Aside0.mk (aa_ (g := gb109) (o := .cells #[.int .i64 ((ab_ l0 (ji19)).f0), .int .i64 ((ab_ l0 (ji19)).f1)] 81 (0, 0)) (by exact kj2_1 (kj2_0 (kz BK109.out))) hb); replace HB := Aside0.mk (ad_ (bq) hb); (try clear hb); obtain ⟨hcz55_0, hcz55_1⟩ := cz2_ BK107.out; obtain ⟨hfz55_0, hfz55_1⟩ := fz2_ BK107.out; obtain ⟨hcz56_0, hcz56_1⟩ := cz2_ BK109.out; obtain ⟨hfz56_0, hfz56_1⟩ := fz2_ BK109.out; obtain ⟨hcz57_0, hcz57_1⟩ := cz2_ BK105.out; obtain ⟨hfz57_0, hfz57_1⟩ := fz2_ BK105.out) | (go_at_call 76; (with_reducible refine (aH_.calls ((ab_ l0 (ji16)).f0) ((ab_ l0 (ji16)).f1) ((ab_ l0 (ji19)).f0) ((ab_ l0 (ji19)).f1) ((ab_ l0 x5_3).f0) ((ab_ l0 x5_3).f1) t111 _ A47.out).mono ?_); rintro e w58 ⟨rfl, hb⟩; replace BK105 := Aside0.mk (aa_ (kz BK105.out) hb); replace BK107 := Aside0.mk (aa_ (kz BK107.out) hb); replace BK109 := Aside0.mk (aa_ (kz BK109.out) hb); replace HB := Aside0.mk (ad_ (bq) hb); (try clear hb)))
             go_meet
             case rel => exact ⟨_, (t111), (by first | rfl | (simp; done) | (simp [*]; done)), H', ⟨by have := HJ1.out; have := HK2.out; have := HK3.out; first | omega | exact Nat.le_refl _⟩, ⟨by (with_reducible repeat (first | refine aL_ ?_ _ | refine av_ ?_ | refine aM_ ?_ _)); exact BK105.out⟩, ⟨by (with_reducible repeat (first | refine aL_ ?_ _ | refine av_ ?_ | refine aM_ ?_ _)); exact BK107.out⟩, ⟨by (with_reducible repeat (first | refine aL_ ?_ _ | refine av_ ?_ | refine aM_ ?_ _)); exact BK109.out⟩, ⟨bq⟩⟩
            subst c39
            have H1 : (aq_.j3 k3 l0 (l0.length : Int) x5_3 true ((ab_ l0 x5_3).f0) ((ab_ l0 x5_3).f1) ((ab_ l0 (ji16)).f0) ((ab_ l0 (ji16)).f1)) = some r := by rw [if_pos rfl] at H; exact H
            clear H
            have H := H1
            clear H1
            have H' := Aside0.mk H
            clear H
            have hnb40 := NB105_107.out
            have hnc40 := NB107_105.out
            have hnb41 := NB105_109.out
            have hnc41 := NB109_105.out
            obtain ⟨hcz42_0, hcz42_1⟩ := cz2_ BK105.out
            obtain ⟨hfz42_0, hfz42_1⟩ := fz2_ BK105.out
            have hnb43 := NB107_109.out
            have hnc43 := NB109_107.out
            obtain ⟨hcz44_0, hcz44_1⟩ := cz2_ BK107.out
            obtain ⟨hfz44_0, hfz44_1⟩ := fz2_ BK107.out
            obtain ⟨hcz45_0, hcz45_1⟩ := cz2_ BK109.out
            obtain ⟨hfz45_0, hfz45_1⟩ := fz2_ BK109.out
            go_wp2_with (first | (go_at_call 76; (with_reducible refine (aH_.calls ((ab_ l0 x5_3).f0) ((ab_ l0 x5_3).f1) ((ab_ l0 (ji16)).f0) ((ab_ l0 (ji16)).f1) ((ab_ l0 (ji19)).f0) ((ab_ l0 (ji19)).f1) true _ A38.out).mono ?_); rintro e w46 ⟨rfl, hb⟩; replace BK105 := Aside0.mk (aa_ (g := gb105) (o := .cells #[.int .i64 ((ab_ l0 x5_3).f0), .int .i64 ((ab_ l0 x5_3).f1)] 81 (0, 0)) (by exact kf (kf (kz BK105.out) NB105_109.out) NB105_109.out) hb); replace BK107 := Aside0.mk (aa_ (g := gb107) (o := .cells #[.int .i64 ((ab_ l0 (ji16)).f0), .int .i64 ((ab_ l0 (ji16)).f1)] 81 (0, 0)) (by exact kf (kf (kz BK107.out) NB107_109.out) NB107_109.out) hb); replace BK109 := Aside0.mk (aa_ (g := gb109) (o := .cells #[.int .i64 ((ab_ l0 (ji19)).f0), .int .i64 ((ab_ l0 (ji19)).f1)] 81 (0, 0)) (by exact kj2_1 (kj2_0 (kz BK109.out))) hb); replace HB := Aside0.mk (ad_ (bq) hb); (try clear hb)))
            go_meet
            case rel => exact ⟨_, (true), (by first | rfl | (simp; done) | (simp [*]; done)), H', ⟨by have := HJ1.out; have := HK2.out; have := HK3.out; first | omega | exact Nat.le_refl _⟩, ⟨by (with_reducible repeat (first | refine aL_ ?_ _ | refine av_ ?_ | refine aM_ ?_ _)); exact BK105.out⟩, ⟨by (with_reducible repeat (first | refine aL_ ?_ _ | refine av_ ?_ | refine aM_ ?_ _)); exact BK107.out⟩, ⟨by (with_reducible repeat (first | refine aL_ ?_ _ | refine av_ ?_ | refine aM_ ?_ _)); exact BK109.out⟩, ⟨bq⟩⟩
           rw [if_pos c32] at H
           have c32b0 : (((ab_ l0 x5_3).f0) == ((ab_ l0 (ji16)).f0) && (((ab_ l0 x5_3).f1) == ((ab_ l0 (ji16)).f1))) = true := c32
           (try (have c32b1 : decide (((ab_ l0 x5_3).f0) = ((ab_ l0 (ji16)).f0) && (((ab_ l0 x5_3).f1) == ((ab_ l0 (ji16)).f1))) = true := by simpa using c32))
           (try (have c32b2 : (((ab_ l0 x5_3).f0) == ((ab_ l0 (ji16)).f0) && (((ab_ l0 x5_3).f1) == ((ab_ l0 (ji16)).f1))) = true := by simpa using c32))
           clear c32
           (first | rw [c32b0] | (simp only [i64_w, i32_w]; rw [c32b0]) | (simp only [c32b1, Bool.not_true, Bool.not_false]) | (simp only [c32b0, Bool.not_true, Bool.not_false]) | skip)
           have H' := Aside0.mk H
           clear H
           have hnb33 := NB105_107.out
           have hnc33 := NB107_105.out
           have hnb34 := NB105_109.out
           have hnc34 := NB109_105.out
           obtain ⟨hcz35_0, hcz35_1⟩ := cz2_ BK105.out
           obtain ⟨hfz35_0, hfz35_1⟩ := fz2_ BK105.out
           have hnb36 := NB107_109.out
           have hnc36 := NB109_107.out
           obtain ⟨hcz37_0, hcz37_1⟩ := cz2_ BK107.out
           obtain ⟨hfz37_0, hfz37_1⟩ := fz2_ BK107.out
           go_wp2
           go_meet
           case rel => exact ⟨_, (true), (by first | rfl | (simp; done) | (simp [*]; done)), H', ⟨by have := HJ1.out; have := HK2.out; have := HK3.out; first | omega | exact Nat.le_refl _⟩, ⟨by exact kf (kf (kz BK105.out) NB105_109.out) NB105_109.out⟩, ⟨by exact kf (kf (kz BK107.out) NB107_109.out) NB107_109.out⟩, ⟨by exact kj2_1 (kj2_0 (kz BK109.out))⟩, ⟨bq⟩⟩
          case rest =>
           clear HC22
           obtain ⟨kq, x66_21, rfl, HA, HJ21, BK105, BK107, BK109, HB⟩ := hcut
           cases kq with
           | zero => exact absurd HA.out (by simp [aq_.j3])
           | succ kj21 =>
            have H := HA.out
            clear HA
            simp only [aq_.j3] at H
            by_cases c59 : x66_21 = true
            rotate_left
            ·replace c59 := Bool.eq_false_iff.mpr c59
             subst c59
             have H1 : (aq_.l2 kj21 l0 (l0.length : Int) x5_3 (wrap64 (x5_3 + 2)) ((ab_ l0 x5_3).f0) ((ab_ l0 x5_3).f1) ((ab_ l0 (ji16)).f0) ((ab_ l0 (ji16)).f1)) = some r := by rw [if_neg (show ¬ (false = true) by decide)] at H; exact H
             clear H
             have H := H1
             clear H1
             have H' := Aside0.mk H
             clear H
             go_wp2
             (try simp only [Act.put, lsa_, ls0_, ls1_])
             go_loopg [9] kj21 (fun kq v9 w' => ∃ (x9_5 : Int), v9 = .int .i64 x9_5 ∧ Aside0 (aq_.l2 kq l0 (l0.length : Int) x5_3 x9_5 ((ab_ l0 x5_3).f0) ((ab_ l0 x5_3).f1) ((ab_ l0 (ji16)).f0) ((ab_ l0 (ji16)).f1) = some r) ∧ Aside0 (kq ≤ kj21) ∧ Aside0 (w'.heap[gb105]? = some (.cells #[.int .i64 ((ab_ l0 x5_3).f0), .int .i64 ((ab_ l0 x5_3).f1)] 81 (0, 0))) ∧ Aside0 (w'.heap[gb107]? = some (.cells #[.int .i64 ((ab_ l0 (ji16)).f0), .int .i64 ((ab_ l0 (ji16)).f1)] 81 (0, 0))) ∧ Aside0 (w'.heap[gb109]? = some (.cells #[.int .i64 ((ab_ l0 (ji19)).f0), .int .i64 ((ab_ l0 (ji19)).f1)] 81 (0, 0))) ∧ Aside0 (Below w.heap.size w w'))
             case atStart => exact ⟨(wrap64 (x5_3 + 2)), (by first | rfl | (simp; done) | (simp [*]; done)), H', ⟨Nat.le_refl _⟩, ⟨by (with_reducible repeat (first | refine aL_ ?_ _ | refine av_ ?_ | refine aM_ ?_ _)); exact BK105.out⟩, ⟨by (with_reducible repeat (first | refine aL_ ?_ _ | refine av_ ?_ | refine aM_ ?_ _)); exact BK107.out⟩, ⟨by (with_reducible repeat (first | refine aL_ ?_ _ | refine av_ ?_ | refine aM_ ?_ _)); exact BK109.out⟩, ⟨bq⟩⟩
             case round =>
              clear H'
              obtain ⟨x9_5, rfl, HA, HK5, BK105, BK107, BK109, HB⟩ := hrel
              cases gk with
              | zero => exact absurd HA.out (by simp [aq_.l2])
              | succ k5 =>
               have H := HA.out
               clear HA
               simp only [aq_.l2] at H
               by_cases c60 : x9_5 < (l0.length : Int)
               rotate_left
               ·rw [if_neg c60] at H
                have c60b0 : decide (x9_5 < (l0.length : Int)) = false := decide_eq_false c60
                clear c60
                have H' := Aside0.mk H
                clear H
                go_wp2
                go_roundg k5
                case measure => have := HJ1.out; have := HK2.out; have := HK3.out; have := HJ21.out; have := HK5.out; omega
                case rel => exact ⟨(wrap64 (x5_3 + 1)), (by first | rfl | (simp; done) | (simp [*]; done)), H', ⟨by have := HJ1.out; have := HK2.out; have := HK3.out; have := HJ21.out; have := HK5.out; omega⟩, ⟨bq⟩⟩
               rw [if_pos c60] at H
               have c60b0 : decide (x9_5 < (l0.length : Int)) = true := decide_eq_true c60
               clear c60
               by_cases c61 : (l0.length : Int) = 0
               rotate_left
               ·rw [if_neg c61] at H
                have c61b0 : ((l0.length : Int) == 0) = false := beq_eq_false_iff_ne.mpr c61
                have c61b1 : ((l0.length : Int) != 0) = true := bne_iff_ne.mpr c61
                have c61b2 : ¬ (l0 = []) := fun h_ => c61 (by rw [h_]; rfl)
                by_cases c62 : (Int.tmod (wrap64 (x9_5 + 1)) (l0.length : Int)) = x5_3
                rotate_left
                ·rw [if_neg c62] at H
                 have c62b0 : ((Int.tmod (wrap64 (x9_5 + 1)) (l0.length : Int)) == x5_3) = false := beq_eq_false_iff_ne.mpr c62
                 have c62b1 : ((Int.tmod (wrap64 (x9_5 + 1)) (l0.length : Int)) != x5_3) = true := bne_iff_ne.mpr c62
                 by_cases c64 : 0 ≤ x9_5
                 rotate_left
                 ·rw [if_neg c64] at H
                  exact absurd H (by simp)
                 rw [if_pos c64] at H
                 have c64b0 : decide (0 ≤ x9_5) = true := decide_eq_true c64
                 clear c64
                 by_cases c65 : x9_5 < (l0.length : Int)
                 rotate_left
                 ·rw [if_neg c65] at H
                  exact absurd H (by simp)
                 rw [if_pos c65] at H
                 have c65b0 : decide (x9_5 < (l0.length : Int)) = true := decide_eq_true c65
                 clear c65
                 obtain ⟨ji66, hji66⟩ : ∃ j_ : Int, (Int.tmod (wrap64 (x9_5 + 1)) (l0.length : Int)) = j_ := ⟨_, rfl⟩
                 replace H : (if 0 ≤ (ji66) then (if (ji66) < (l0.length : Int) then ((cN_.f ((ab_ l0 x5_3).f0) ((ab_ l0 x5_3).f1) ((ab_ l0 (ji16)).f0) ((ab_ l0 (ji16)).f1) ((ab_ l0 x9_5).f0) ((ab_ l0 x9_5).f1) ((ab_ l0 (ji66)).f0) ((ab_ l0 (ji66)).f1)).bind fun t114 => (if t114 = true then (some false) else (aq_.l2 k5 l0 (l0.length : Int) x5_3 (wrap64 (x9_5 + 1)) ((ab_ l0 x5_3).f0) ((ab_ l0 x5_3).f1) ((ab_ l0 (ji16)).f0) ((ab_ l0 (ji16)).f1)))) else (none)) else (none)) = some r := by first | (rw [hji66] at H; exact H) | (simp only [hji66] at H ⊢; exact H)
                 (try rw [hji66] at c62b0)
                 (try rw [hji66] at c62b1)
                 by_cases c67 : 0 ≤ (ji66)
                 rotate_left
                 ·rw [if_neg c67] at H
                  exact absurd H (by simp)
                 rw [if_pos c67] at H
                 have c67b0 : decide (0 ≤ (ji66)) = true := decide_eq_true c67
                 clear c67
                 by_cases c68 : (ji66) < (l0.length : Int)
                 rotate_left
                 ·rw [if_neg c68] at H
                  exact absurd H (by simp)
                 rw [if_pos c68] at H
                 have c68b0 : decide ((ji66) < (l0.length : Int)) = true := decide_eq_true c68
                 clear c68
                 replace H := Option.bind_eq_some_iff.mp H
                 obtain ⟨t114, A690, H⟩ := H
                 (try dsimp only at H)
                 have A69 := Aside0.mk A690
                 clear A690
                 have HC70 := Aside0.mk H
                 clear H
                 try go_wp2
                 have n0_ := Aside0.mk (av_ BK105.out)
                 have n1_ := Aside0.mk (av_ BK107.out)
                 have n2_ := Aside0.mk (av_ BK109.out)
                 have n3_ := Aside0.mk (bD_ HB.out)
                 clear BK105
                 clear BK107
                 clear BK109
                 clear HB
                 have BK105 := n0_
                 have BK107 := n1_
                 have BK109 := n2_
                 have HB := n3_
                 clear n0_ n1_ n2_ n3_
                 have p112 : 0 ≤ (x9_5 : Int) := of_decide_eq_true (by assumption)
                 have q112 : x9_5 < (l0.length : Int) := of_decide_eq_true (by assumption)
                 obtain ⟨ad112, e112, hx112_0, hx112_1⟩ := bX_ HR0.out x9_5 p112 q112
                 have hw112_1 := hx112_1
                 have hw112_0 := hx112_0
                 obtain rfl : ad104 = ad112 := (by injection e112)
                 replace hx112_0 := bu_ HB.out hx112_0
                 replace hx112_1 := bu_ HB.out hx112_1
                 replace p112 := eq_true p112
                 replace q112 := eq_true q112
                 have p113 : 0 ≤ ((ji66) : Int) := of_decide_eq_true (by assumption)
                 have q113 : (ji66) < (l0.length : Int) := of_decide_eq_true (by assumption)
                 obtain ⟨ad113, e113, hx113_0, hx113_1⟩ := bX_ HR0.out (ji66) p113 q113
                 have hw113_1 := hx113_1
                 have hw113_0 := hx113_0
                 obtain rfl : ad104 = ad113 := (by injection e113)
                 replace hx113_0 := bu_ HB.out hx113_0
                 replace hx113_1 := bu_ HB.out hx113_1
                 replace p113 := eq_true p113
                 replace q113 := eq_true q113
                 refine cl_ (n := 22) (S := fun w' => w'.cell? ⟨gb105, 0, none⟩ = some (.int .i64 ((ab_ l0 x5_3).f0)) ∧ w'.cell? ⟨gb105, 1, none⟩ = some (.int .i64 ((ab_ l0 x5_3).f1)) ∧ w'.cell? ⟨gb107, 0, none⟩ = some (.int .i64 ((ab_ l0 (ji16)).f0)) ∧ w'.cell? ⟨gb107, 1, none⟩ = some (.int .i64 ((ab_ l0 (ji16)).f1)) ∧ w'.cell? (ad104.add ((x9_5).toNat * 2)) = some (.int .i64 ((ab_ l0 x9_5).f0)) ∧ w'.cell? ⟨(ad104.add ((x9_5).toNat * 2)).block, (ad104.add ((x9_5).toNat * 2)).off + 1, none⟩ = some (.int .i64 ((ab_ l0 x9_5).f1)) ∧ w'.cell? (ad104.add (((ji66)).toNat * 2)) = some (.int .i64 ((ab_ l0 (ji66)).f0)) ∧ w'.cell? ⟨(ad104.add (((ji66)).toNat * 2)).block, (ad104.add (((ji66)).toNat * 2)).off + 1, none⟩ = some (.int .i64 ((ab_ l0 (ji66)).f1))) (ds := []) #[f_,f_,f_,f_,f_,f_,f_,f_,f_,f_,f_,f_,f_,f_,f_,f_,f_,f_,f_,f_,f_,f_] (by kernel_rfl) rfl rfl ⟨(ac_ BK105.out 0).trans rfl, (ac_ BK105.out 1).trans rfl, (ac_ BK107.out 0).trans rfl, (ac_ BK107.out 1).trans rfl, (bv_ HB.out hw112_0), (bv_ HB.out hw112_1), (bv_ HB.out hw113_0), (bv_ HB.out hw113_1)⟩ (fun hHeld => ?_); refine bo_ aq_.tab20 aq_.bits20 (fun HT_ HW_ => ?_)
                 generalize wr.drew = w71 at BK105 BK107 BK109 HB hx112_0 hx112_1 hx113_0 hx113_1 hHeld ⊢
                 refine pu 0 74 #[t_,f_,f_,f_,f_,f_,f_,f_,f_,f_,f_,f_,f_,f_,f_,f_,f_,f_,f_,f_,f_,f_] HT_ ?_
                 refine pu 1 75 #[t_,t_,f_,f_,f_,f_,f_,f_,f_,f_,f_,f_,f_,f_,f_,f_,f_,f_,f_,f_,f_,f_] HT_ ?_
                 refine pu 2 76 #[t_,t_,t_,f_,f_,f_,f_,f_,f_,f_,f_,f_,f_,f_,f_,f_,f_,f_,f_,f_,f_,f_] HT_ ?_
                 refine pu 3 77 #[t_,t_,t_,t_,f_,f_,f_,f_,f_,f_,f_,f_,f_,f_,f_,f_,f_,f_,f_,f_,f_,f_] HT_ ?_
                 refine pu 4 78 #[t_,t_,t_,t_,t_,f_,f_,f_,f_,f_,f_,f_,f_,f_,f_,f_,f_,f_,f_,f_,f_,f_] HT_ ?_
                 refine pu 5 79 #[t_,t_,t_,t_,t_,t_,f_,f_,f_,f_,f_,f_,f_,f_,f_,f_,f_,f_,f_,f_,f_,f_] HT_ ?_
                 refine pu 6 80 #[t_,t_,t_,t_,t_,t_,t_,f_,f_,f_,f_,f_,f_,f_,f_,f_,f_,f_,f_,f_,f_,f_] HT_ ?_
                 refine pu 9 83 #[t_,t_,t_,t_,t_,t_,t_,f_,f_,t_,f_,f_,f_,f_,f_,f_,f_,f_,f_,f_,f_,f_] HT_ ?_
                 refine pu 10 84 #[t_,t_,t_,t_,t_,t_,t_,f_,f_,t_,t_,f_,f_,f_,f_,f_,f_,f_,f_,f_,f_,f_] HT_ ?_
                 refine pu 11 85 #[t_,t_,t_,t_,t_,t_,t_,f_,f_,t_,t_,t_,f_,f_,f_,f_,f_,f_,f_,f_,f_,f_] HT_ ?_
                 refine pu 13 87 #[t_,t_,t_,t_,t_,t_,t_,f_,f_,t_,t_,t_,f_,t_,f_,f_,f_,f_,f_,f_,f_,f_] HT_ ?_
                 refine pu 14 88 #[t_,t_,t_,t_,t_,t_,t_,f_,f_,t_,t_,t_,f_,t_,t_,f_,f_,f_,f_,f_,f_,f_] HT_ ?_
                 refine pu 15 89 #[t_,t_,t_,t_,t_,t_,t_,f_,f_,t_,t_,t_,f_,t_,t_,t_,f_,f_,f_,f_,f_,f_] HT_ ?_
                 refine pu 16 90 #[t_,t_,t_,t_,t_,t_,t_,f_,f_,t_,t_,t_,f_,t_,t_,t_,t_,f_,f_,f_,f_,f_] HT_ ?_
                 refine pu 17 91 #[t_,t_,t_,t_,t_,t_,t_,f_,f_,t_,t_,t_,f_,t_,t_,t_,t_,t_,f_,f_,f_,f_] HT_ ?_
                 refine pu 18 92 #[t_,t_,t_,t_,t_,t_,t_,f_,f_,t_,t_,t_,f_,t_,t_,t_,t_,t_,t_,f_,f_,f_] HT_ ?_
                 refine tk 7 81 #[t_,t_,t_,t_,t_,t_,t_,t_,f_,t_,t_,t_,f_,t_,t_,t_,t_,t_,t_,f_,f_,f_] HT_ HW_ hHeld ?_ (hv := by rintro w' ⟨s0, s1, s2, s3, s4, s5, s6, s7⟩; go_simp; with_reducible rfl)
                 refine tk 8 82 #[t_,t_,t_,t_,t_,t_,t_,t_,t_,t_,t_,t_,f_,t_,t_,t_,t_,t_,t_,f_,f_,f_] HT_ HW_ hHeld ?_ (hv := by rintro w' ⟨s0, s1, s2, s3, s4, s5, s6, s7⟩; go_simp; with_reducible rfl)
                 refine tk 12 86 #[t_,t_,t_,t_,t_,t_,t_,t_,t_,t_,t_,t_,t_,t_,t_,t_,t_,t_,t_,f_,f_,f_] HT_ HW_ hHeld ?_ (hv := by rintro w' ⟨s0, s1, s2, s3, s4, s5, s6, s7⟩; go_simp; with_reducible rfl)
                 refine tk 19 93 #[t_,t_,t_,t_,t_,t_,t_,t_,t_,t_,t_,t_,t_,t_,t_,t_,t_,t_,t_,t_,f_,f_] HT_ HW_ hHeld ?_ (hv := by rintro w' ⟨s0, s1, s2, s3, s4, s5, s6, s7⟩; go_simp; with_reducible rfl)
                 refine one_ (i := 20) (N := some 94) #[t_,t_,t_,t_,t_,t_,t_,t_,t_,t_,t_,t_,t_,t_,t_,t_,t_,t_,t_,t_,t_,f_] rfl rfl (bh_ HT_.out (by kernel_rfl)) (by decide) (fun K hK => ?_)
                 (first | refine goes_ Try.func77 (by kernel_rfl) rfl #[.agg #[.int .i64 ((ab_ l0 x5_3).f0), .int .i64 ((ab_ l0 x5_3).f1)], .agg #[.int .i64 ((ab_ l0 (ji16)).f0), .int .i64 ((ab_ l0 (ji16)).f1)], .agg #[.int .i64 ((ab_ l0 x9_5).f0), .int .i64 ((ab_ l0 x9_5).f1)], .agg #[.int .i64 ((ab_ l0 (ji66)).f0), .int .i64 ((ab_ l0 (ji66)).f1)]] (by rfl) rfl rfl (by (try simp only [List.map_toArray, List.map_cons, List.map_nil]); first | done | (simp only [hji16, hji66]; rfl) | rfl | (simp only [List.length_drop, List.length_take]; rfl)) ?_ | refine RPW.by_ Try.func77 (by kernel_rfl) rfl #[.agg #[.int .i64 ((ab_ l0 x5_3).f0), .int .i64 ((ab_ l0 x5_3).f1)], .agg #[.int .i64 ((ab_ l0 (ji16)).f0), .int .i64 ((ab_ l0 (ji16)).f1)], .agg #[.int .i64 ((ab_ l0 x9_5).f0), .int .i64 ((ab_ l0 x9_5).f1)], .agg #[.int .i64 ((ab_ l0 (ji66)).f0), .int .i64 ((ab_ l0 (ji66)).f1)]] (by rfl) rfl rfl rfl (by (try simp only [List.map_toArray, List.map_cons, List.map_nil]); first | done | (simp only [hji16, hji66]; rfl) | rfl | (simp only [List.length_drop, List.length_take]; rfl)) ?_ | refine RPW.bz_ Try.func77 (by kernel_rfl) rfl #[.agg #[.int .i64 ((ab_ l0 x5_3).f0), .int .i64 ((ab_ l0 x5_3).f1)], .agg #[.int .i64 ((ab_ l0 (ji16)).f0), .int .i64 ((ab_ l0 (ji16)).f1)], .agg #[.int .i64 ((ab_ l0 x9_5).f0), .int .i64 ((ab_ l0 x9_5).f1)], .agg #[.int .i64 ((ab_ l0 (ji66)).f0), .int .i64 ((ab_ l0 (ji66)).f1)]] (by rfl) rfl rfl rfl (by (try simp only [List.map_toArray, List.map_cons, List.map_nil]); first | done | (simp only [hji16, hji66]; rfl) | rfl | (simp only [List.length_drop, List.length_take]; rfl)) ?_)
                 with_reducible refine (cN_.calls ((ab_ l0 x5_3).f0) ((ab_ l0 x5_3).f1) ((ab_ l0 (ji16)).f0) ((ab_ l0 (ji16)).f1) ((ab_ l0 x9_5).f0) ((ab_ l0 x9_5).f1) ((ab_ l0 (ji66)).f0) ((ab_ l0 (ji66)).f1) t114 _ A69.out).mono ?_
                 rintro e w72 ⟨rfl, hb⟩
                 refine ⟨_, rfl, ?_⟩
                 have n0_ := Aside0.mk (aa_ (kz BK105.out) hb)
                 have n1_ := Aside0.mk (aa_ (kz BK107.out) hb)
                 have n2_ := Aside0.mk (aa_ (kz BK109.out) hb)
                 have n3_ := Aside0.mk (ad_ (bq) hb)
                 clear BK105
                 clear BK107
                 clear BK109
                 clear HB
                 have BK105 := n0_
                 have BK107 := n1_
                 have BK109 := n2_
                 have HB := n3_
                 clear n0_ n1_ n2_ n3_
                 (try clear hb)
                 refine hK.out _ _ ⟨(ac_ BK105.out 0).trans rfl, (ac_ BK105.out 1).trans rfl, (ac_ BK107.out 0).trans rfl, (ac_ BK107.out 1).trans rfl, (bv_ HB.out hw112_0), (bv_ HB.out hw112_1), (bv_ HB.out hw113_0), (bv_ HB.out hw113_1)⟩ (fun hHeld => ?_)
                 clear hK K
                 refine norm_ (a' := ?_) ?_ ?_
                 rotate_left
                 ·show Act.put _ (some 94) _ = _
                  simp only [Act.put, lsa_, ls0_, ls1_, i64_w, i32_w]
                  rfl
                 refine pu 21 95 #[t_,t_,t_,t_,t_,t_,t_,t_,t_,t_,t_,t_,t_,t_,t_,t_,t_,t_,t_,t_,t_,t_] HT_ ?_
                 refine done_ (bS_ HT_.out (by kernel_rfl)) ?_
                 go_upto_if 95 with (fail)
                 have H := HC70.out
                 clear HC70
                 by_cases c73 : t114 = true
                 rotate_left
                 ·replace c73 := Bool.eq_false_iff.mpr c73
                  subst c73
                  have H1 : (aq_.l2 k5 l0 (l0.length : Int) x5_3 (wrap64 (x9_5 + 1)) ((ab_ l0 x5_3).f0) ((ab_ l0 x5_3).f1) ((ab_ l0 (ji16)).f0) ((ab_ l0 (ji16)).f1)) = some r := by rw [if_neg (show ¬ (false = true) by decide)] at H; exact H
                  clear H
                  have H := H1
                  clear H1
                  have H' := Aside0.mk H
                  clear H
                  go_wp2
                  go_roundg k5
                  case measure => have := HJ1.out; have := HK2.out; have := HK3.out; have := HJ21.out; have := HK5.out; omega
                  case rel => exact ⟨(wrap64 (x9_5 + 1)), (by first | rfl | (simp; done) | (simp [*]; done)), H', ⟨by have := HJ1.out; have := HK2.out; have := HK3.out; have := HJ21.out; have := HK5.out; omega⟩, ⟨by (with_reducible repeat (first | refine aL_ ?_ _ | refine av_ ?_ | refine aM_ ?_ _)); exact BK105.out⟩, ⟨by (with_reducible repeat (first | refine aL_ ?_ _ | refine av_ ?_ | refine aM_ ?_ _)); exact BK107.out⟩, ⟨by (with_reducible repeat (first | refine aL_ ?_ _ | refine av_ ?_ | refine aM_ ?_ _)); exact BK109.out⟩, ⟨bq⟩⟩
                 subst c73
                 have H1 : (some false) = some r := by rw [if_pos rfl] at H; exact H
                 clear H
                 have H := H1
                 clear H1
                 obtain rfl := Option.some.inj H
                 go_wp2
                 go_ret
                 exact ⟨by first | rfl | (simp [ah_, ai_] <;> rfl) | (simp only [← hji16, ← hji19, ← hji66]; first | rfl | (simp [ah_, ai_] <;> rfl)) | (simp [*, ah_, ai_] <;> rfl), bq⟩
                rw [if_pos c62] at H
                have c62b0 : ((Int.tmod (wrap64 (x9_5 + 1)) (l0.length : Int)) == x5_3) = true := beq_iff_eq.mpr c62
                have c62b1 : ((Int.tmod (wrap64 (x9_5 + 1)) (l0.length : Int)) != x5_3) = false := bne_eq_false_iff_eq.mpr c62
                clear c62
                have H' := Aside0.mk H
                clear H
                try go_wp2
                have n0_ := Aside0.mk (av_ BK105.out)
                have n1_ := Aside0.mk (av_ BK107.out)
                have n2_ := Aside0.mk (av_ BK109.out)
                have n3_ := Aside0.mk (bD_ HB.out)
                clear BK105
                clear BK107
                clear BK109
                clear HB
                have BK105 := n0_
                have BK107 := n1_
                have BK109 := n2_
                have HB := n3_
                clear n0_ n1_ n2_ n3_
                refine cl_ (n := 22) (S := fun w' => True) (ds := []) #[f_,f_,f_,f_,f_,f_,f_,f_,f_,f_,f_,f_,f_,f_,f_,f_,f_,f_,f_,f_,f_,f_] (by kernel_rfl) rfl rfl trivial (fun hHeld => ?_); refine bo_ aq_.tab20 aq_.bits20 (fun HT_ HW_ => ?_)
                generalize wr.drew = w63 at BK105 BK107 BK109 HB hHeld ⊢
                refine pu 0 74 #[t_,f_,f_,f_,f_,f_,f_,f_,f_,f_,f_,f_,f_,f_,f_,f_,f_,f_,f_,f_,f_,f_] HT_ ?_
                refine pu 1 75 #[t_,t_,f_,f_,f_,f_,f_,f_,f_,f_,f_,f_,f_,f_,f_,f_,f_,f_,f_,f_,f_,f_] HT_ ?_
                refine pu 2 76 #[t_,t_,t_,f_,f_,f_,f_,f_,f_,f_,f_,f_,f_,f_,f_,f_,f_,f_,f_,f_,f_,f_] HT_ ?_
                refine pu 3 77 #[t_,t_,t_,t_,f_,f_,f_,f_,f_,f_,f_,f_,f_,f_,f_,f_,f_,f_,f_,f_,f_,f_] HT_ ?_
                refine pu 4 78 #[t_,t_,t_,t_,t_,f_,f_,f_,f_,f_,f_,f_,f_,f_,f_,f_,f_,f_,f_,f_,f_,f_] HT_ ?_
                refine pu 5 79 #[t_,t_,t_,t_,t_,t_,f_,f_,f_,f_,f_,f_,f_,f_,f_,f_,f_,f_,f_,f_,f_,f_] HT_ ?_
                refine pu 6 80 #[t_,t_,t_,t_,t_,t_,t_,f_,f_,f_,f_,f_,f_,f_,f_,f_,f_,f_,f_,f_,f_,f_] HT_ ?_
                refine pn 7 81 #[t_,t_,t_,t_,t_,t_,t_,t_,f_,f_,f_,f_,f_,f_,f_,f_,f_,f_,f_,f_,f_,f_] HT_ ?_
                refine pn 8 82 #[t_,t_,t_,t_,t_,t_,t_,t_,t_,f_,f_,f_,f_,f_,f_,f_,f_,f_,f_,f_,f_,f_] HT_ ?_
                refine pn 9 83 #[t_,t_,t_,t_,t_,t_,t_,t_,t_,t_,f_,f_,f_,f_,f_,f_,f_,f_,f_,f_,f_,f_] HT_ ?_
                refine pn 10 84 #[t_,t_,t_,t_,t_,t_,t_,t_,t_,t_,t_,f_,f_,f_,f_,f_,f_,f_,f_,f_,f_,f_] HT_ ?_
                refine pn 11 85 #[t_,t_,t_,t_,t_,t_,t_,t_,t_,t_,t_,t_,f_,f_,f_,f_,f_,f_,f_,f_,f_,f_] HT_ ?_
                refine pn 12 86 #[t_,t_,t_,t_,t_,t_,t_,t_,t_,t_,t_,t_,t_,f_,f_,f_,f_,f_,f_,f_,f_,f_] HT_ ?_
                refine pn 13 87 #[t_,t_,t_,t_,t_,t_,t_,t_,t_,t_,t_,t_,t_,t_,f_,f_,f_,f_,f_,f_,f_,f_] HT_ ?_
                refine pn 14 88 #[t_,t_,t_,t_,t_,t_,t_,t_,t_,t_,t_,t_,t_,t_,t_,f_,f_,f_,f_,f_,f_,f_] HT_ ?_
                refine pn 15 89 #[t_,t_,t_,t_,t_,t_,t_,t_,t_,t_,t_,t_,t_,t_,t_,t_,f_,f_,f_,f_,f_,f_] HT_ ?_
                refine pn 16 90 #[t_,t_,t_,t_,t_,t_,t_,t_,t_,t_,t_,t_,t_,t_,t_,t_,t_,f_,f_,f_,f_,f_] HT_ ?_
                refine pn 17 91 #[t_,t_,t_,t_,t_,t_,t_,t_,t_,t_,t_,t_,t_,t_,t_,t_,t_,t_,f_,f_,f_,f_] HT_ ?_
                refine pn 18 92 #[t_,t_,t_,t_,t_,t_,t_,t_,t_,t_,t_,t_,t_,t_,t_,t_,t_,t_,t_,f_,f_,f_] HT_ ?_
                refine pn 19 93 #[t_,t_,t_,t_,t_,t_,t_,t_,t_,t_,t_,t_,t_,t_,t_,t_,t_,t_,t_,t_,f_,f_] HT_ ?_
                refine pn 20 94 #[t_,t_,t_,t_,t_,t_,t_,t_,t_,t_,t_,t_,t_,t_,t_,t_,t_,t_,t_,t_,t_,f_] HT_ ?_
                refine pu 21 95 #[t_,t_,t_,t_,t_,t_,t_,t_,t_,t_,t_,t_,t_,t_,t_,t_,t_,t_,t_,t_,t_,t_] HT_ ?_
                refine done_ (bS_ HT_.out (by kernel_rfl)) ?_
                try go_wp2
                go_roundg k5
                case measure => have := HJ1.out; have := HK2.out; have := HK3.out; have := HJ21.out; have := HK5.out; omega
                case rel => exact ⟨(wrap64 (x9_5 + 1)), (by first | rfl | (simp; done) | (simp [*]; done)), H', ⟨by have := HJ1.out; have := HK2.out; have := HK3.out; have := HJ21.out; have := HK5.out; omega⟩, ⟨by (with_reducible repeat (first | refine aL_ ?_ _ | refine av_ ?_ | refine aM_ ?_ _)); exact BK105.out⟩, ⟨by (with_reducible repeat (first | refine aL_ ?_ _ | refine av_ ?_ | refine aM_ ?_ _)); exact BK107.out⟩, ⟨by (with_reducible repeat (first | refine aL_ ?_ _ | refine av_ ?_ | refine aM_ ?_ _)); exact BK109.out⟩, ⟨bq⟩⟩
               rw [if_pos c61] at H
               exact absurd H (by simp)
            subst c59
            have H1 : (some false) = some r := by rw [if_pos rfl] at H; exact H
            clear H
            have H := H1
            clear H1
            obtain rfl := Option.some.inj H
            go_wp2
            go_ret
            exact ⟨by first | rfl | (simp [ah_, ai_] <;> rfl) | (simp only [← hji16, ← hji19]; first | rfl | (simp [ah_, ai_] <;> rfl)) | (simp [*, ah_, ai_] <;> rfl), bq⟩
         rw [if_pos c15] at H
         exact absurd H (by simp)
      rw [if_pos c5] at H
      have c5b0 : decide (x4_2 < (l0.length : Int)) = true := decide_eq_true c5
      clear c5
      by_cases c6 : 0 ≤ x4_2
      rotate_left
      ·rw [if_neg c6] at H
       exact absurd H (by simp)
      rw [if_pos c6] at H
      have c6b0 : decide (0 ≤ x4_2) = true := decide_eq_true c6
      clear c6
      by_cases c7 : x4_2 < (l0.length : Int)
      rotate_left
      ·rw [if_neg c7] at H
       exact absurd H (by simp)
      rw [if_pos c7] at H
      have c7b0 : decide (x4_2 < (l0.length : Int)) = true := decide_eq_true c7
      clear c7
      replace H := Option.bind_eq_some_iff.mp H
      obtain ⟨t102, A80, H⟩ := H
      (try dsimp only at H)
      have A8 := Aside0.mk A80
      clear A80
      have HC9 := Aside0.mk H
      clear H
      have p101 : 0 ≤ (x4_2 : Int) := of_decide_eq_true (by assumption)
      have q101 : x4_2 < (l0.length : Int) := of_decide_eq_true (by assumption)
      obtain ⟨ad101, e101, hx101_0, hx101_1⟩ := bX_ HR0.out x4_2 p101 q101
      cases e101
      replace hx101_0 := bu_ HB.out hx101_0
      replace hx101_1 := bu_ HB.out hx101_1
      replace p101 := eq_true p101
      replace q101 := eq_true q101
      go_upto_if 28 with (first | ((with_reducible refine an_ (f := 75) rfl ?_); refine aU_ (some 27) rfl rfl Try.func75 (by kernel_rfl) rfl #[.agg #[.int .i64 ((ab_ l0 x4_2).f0), .int .i64 ((ab_ l0 x4_2).f1)]] rfl (by first | rfl | (simp only [lma_, lmc_, lmn_]; first | done | rfl)) ?_; (with_reducible refine (spec_l02Ok.calls ((ab_ l0 x4_2).f0) ((ab_ l0 x4_2).f1) t102 _ A8.out).mono ?_); rintro e w10 ⟨rfl, hb⟩; refine ⟨_, rfl, ?_⟩; replace HB := Aside0.mk (ad_ (bz HB.out) hb); (try clear hb)))
      (try simp only [Act.put, lsa_, ls0_, ls1_])
      have H := HC9.out
      clear HC9
      by_cases c11 : t102 = true
      rotate_left
      ·replace c11 := Bool.eq_false_iff.mpr c11
       subst c11
       have H1 : (some false) = some r := by rw [if_neg (show ¬ (false = true) by decide)] at H; exact H
       clear H
       have H := H1
       clear H1
       obtain rfl := Option.some.inj H
       go_wp2
       go_ret
       exact ⟨by first | rfl | (simp [*, ah_, ai_] <;> rfl), bz HB.out⟩
      subst c11
      have H1 : (aq_.l0 k2 l0 (l0.length : Int) (wrap64 (x4_2 + 1))) = some r := by rw [if_pos rfl] at H; exact H
      clear H
      have H := H1
      clear H1
      have H' := Aside0.mk H
      clear H
      go_wp2
      go_roundg k2
      case measure => have := HJ1.out; have := HK2.out; omega
      case rel => exact ⟨(wrap64 (x4_2 + 1)), (by first | rfl | (simp; done) | (simp [*]; done)), H', ⟨by have := HJ1.out; have := HK2.out; omega⟩, ⟨bz HB.out⟩⟩
   subst c4
   have H1 : (some false) = some r := by rw [if_pos rfl] at H; exact H
   clear H
   have H := H1
   clear H1
   obtain rfl := Option.some.inj H
   go_wp2
   go_ret
   exact ⟨by first | rfl | (simp [*, ah_, ai_] <;> rfl), bz HB.out⟩
end Go.Proofs.Ytpjhnchfhghlcaa.Q
namespace Go.Proofs.Ytpjhnchfhghlcaa.Q
open Go.RowKit Go.Proofs.YtpjhnchfhghlcaaW.PrintWords Go.Proofs.YtpjhnchfhghlcaaW.PrintLast Go.Proofs.YtpjhnchfhghlcaaW.PrintMore
attribute [local go_sem] aB_ aE_ aN_ aO_ ax_ aw_ aD_ aC_
mutual
def ay_.j0 : Nat → List (S37) → Bool → Option (Bool)
 | 0, _, _ => none
 | k + 1, x0, x32 => if x32 = true then (some false) else (ay_.l0 k x0 0)
def ay_.l0 : Nat → List (S37) → Int → Option (Bool)
 | 0, _, _ => none
 | k + 1, x0, x3 => if 0 < (x0.length : Int) then (if x3 < (((ar_ x0 0).f3).length : Int) then (if 0 ≤ x3 then ((aJ_.f k ((aA_ ((ar_ x0 0).f3) x3).f0)).bind fun t110 => (if t110 = true then (if x3 > 0 then (if 0 ≤ (wrap64 (x3 - 1)) then (if (wrap64 (x3 - 1)) < (((ar_ x0 0).f3).length : Int) then (ay_.j2 k x0 x3 (!(Op.bytesLess (((aA_ ((ar_ x0 0).f3) (wrap64 (x3 - 1))).f0).toList) (((aA_ ((ar_ x0 0).f3) x3).f0).toList)))) else (none)) else (none)) else (ay_.j2 k x0 x3 false)) else (ay_.j2 k x0 x3 true))) else (none)) else (some true)) else (none)
def ay_.j2 : Nat → List (S37) → Int → Bool → Option (Bool)
 | 0, _, _, _ => none
 | k + 1, x0, x3, x75 => if x75 = true then (some false) else (if 0 < (x0.length : Int) then (if 0 ≤ x3 then (if x3 < (((ar_ x0 0).f3).length : Int) then ((aG_.f k x0 ((aA_ ((ar_ x0 0).f3) x3).f1)).bind fun bt117 => (if bt117.2 = true then ((aq_.f k bt117.1).bind fun t121 => (if t121 = true then (ay_.l0 k x0 (wrap64 (x3 + 1))) else (some false))) else (some false))) else (none)) else (none)) else (none))
end
def ay_.f (k : Nat) (l0 : List (S37)) : Option (Bool) := if 0 < (l0.length : Int) then ((ao_.f ((ar_ l0 0).f0) 10 20000).bind fun t102 => (if t102 = true then ((ao_.f ((ar_ l0 0).f1) 10 20000).bind fun t104 => (if t104 = true then ((au_.f k l0).bind fun t105 => (if t105 = true then (ay_.j0 k l0 (decide ((((ar_ l0 0).f3).length : Int) > 24))) else (ay_.j0 k l0 true))) else (ay_.j0 k l0 true))) else (ay_.j0 k l0 true))) else (none)
set_option maxHeartbeats 8000000 in
set_option maxRecDepth 100000 in
theorem ay_.calls (k : Nat) (A0 : Option Addr) (l0 : List (S37)) (r : Bool) (w : World) (hr0 : Kd.C k37 w A0 l0.length l0) (h : ay_.f k l0 = some r) :
  Calls Try.prog 45 #[.pointer A0] w fun e w' => e = .returned (.bool r) ∧ Below w.heap.size w w' := by
 have HR0 := Aside0.mk hr0
 clear hr0
 have HB := Aside0.mk (Below.refl w.heap.size w)
 have H : (if 0 < (l0.length : Int) then ((ao_.f ((ar_ l0 0).f0) 10 20000).bind fun t102 => (if t102 = true then ((ao_.f ((ar_ l0 0).f1) 10 20000).bind fun t104 => (if t104 = true then ((au_.f k l0).bind fun t105 => (if t105 = true then (ay_.j0 k l0 (decide ((((ar_ l0 0).f3).length : Int) > 24))) else (ay_.j0 k l0 true))) else (ay_.j0 k l0 true))) else (ay_.j0 k l0 true))) else (none)) = some r := h
 clear h
 have HC2 := Aside0.mk H
 clear H
 go_enter Try.func45, Try.ntmps45
 go_upto_region 1 with (fail)
 repeat (go_quiet (fail); go_upto_region 1 with (fail))
 go_cut [32] (fun v32 wc => ∃ (kq : Nat) (x32_1 : Bool), v32 = .bool x32_1 ∧ Aside0 (ay_.j0 kq l0 x32_1 = some r) ∧ Aside0 (kq ≤ k) ∧ Aside0 (Below w.heap.size w wc))
 case first =>
  have H := HC2.out
  clear HC2
  by_cases c3 : 0 < (l0.length : Int)
  rotate_left
  ·rw [if_neg c3] at H
   exact absurd H (by simp)
  rw [if_pos c3] at H
  have c3b0 : decide (0 < (l0.length : Int)) = true := decide_eq_true c3
  have c3b1 : decide (0 < l0.length) = true := decide_eq_true (by omega)
  clear c3
  (first | rw [c3b0] | (simp only [i64_w, i32_w]; rw [c3b0]) | (simp only [c3b1, Bool.not_true, Bool.not_false]) | (simp only [c3b0, Bool.not_true, Bool.not_false]) | skip)
  replace H := Option.bind_eq_some_iff.mp H
  obtain ⟨t102, A40, H⟩ := H
  (try dsimp only at H)
  have A4 := Aside0.mk A40
  clear A40
  by_cases c5 : t102 = true
  rotate_left
  ·replace c5 := Bool.eq_false_iff.mpr c5
   subst c5
   have H1 : (ay_.j0 k l0 true) = some r := by rw [if_neg (show ¬ (false = true) by decide)] at H; exact H
   clear H
   have H := H1
   clear H1
   have H' := Aside0.mk H
   clear H
   have p101 : 0 ≤ (0 : Int) := (by omega)
   have q101 : 0 < (l0.length : Int) := of_decide_eq_true (by assumption)
   obtain ⟨ad101, A101_2, c101_2, A101_3, c101_3, e101, hx101_0, hx101_1, hx101_2, hx101_3, hl101_2, hi101_2, hl101_3, hi101_3⟩ := cc_ HR0.out 0 p101 q101
   cases e101
   have qi101 : (0 < l0.length) = True := eq_true (by omega)
   (try simp only [Int.toNat_zero, Nat.zero_mul, Addr.add_zero'] at hx101_0 hx101_1)
   (try simp only [Int.toNat_zero, Nat.zero_mul, Addr.add_zero'] at hx101_2 hx101_3)
   replace hx101_0 := bu_ HB.out hx101_0
   replace hx101_1 := bu_ HB.out hx101_1
   replace hx101_2 := bu_ HB.out hx101_2
   replace hx101_3 := bu_ HB.out hx101_3
   have HR101_2 := Aside0.mk hi101_2
   have HC101_2 := Aside0.mk hl101_2
   clear hi101_2 hl101_2
   have HR101_3 := Aside0.mk hi101_3
   have HC101_3 := Aside0.mk hl101_3
   clear hi101_3 hl101_3
   replace p101 := eq_true p101
   replace q101 := eq_true q101
   go_wp2_with (first | (go_at_call 47; (with_reducible refine (ao_.calls ((ar_ l0 0).f0) 10 20000 false _ A4.out).mono ?_); rintro e w' ⟨rfl, ⟨nd, rfl⟩⟩; (try first | exact ⟨rfl, _, World.drewN_drewN _ _ _⟩ | exact ⟨rfl, _, Eq.trans (World.drewN_drewN _ _ _) (congrArg (World.drewN _) (Nat.add_assoc _ _ _))⟩)))
   repeat (go_quiet (first | (go_at_call 47; (with_reducible refine (ao_.calls ((ar_ l0 0).f0) 10 20000 false _ A4.out).mono ?_); rintro e w' ⟨rfl, ⟨nd, rfl⟩⟩; (try first | exact ⟨rfl, _, World.drewN_drewN _ _ _⟩ | exact ⟨rfl, _, Eq.trans (World.drewN_drewN _ _ _) (congrArg (World.drewN _) (Nat.add_assoc _ _ _))⟩))); try go_wp2_with (first | (go_at_call 47; (with_reducible refine (ao_.calls ((ar_ l0 0).f0) 10 20000 false _ A4.out).mono ?_); rintro e w' ⟨rfl, ⟨nd, rfl⟩⟩; (try first | exact ⟨rfl, _, World.drewN_drewN _ _ _⟩ | exact ⟨rfl, _, Eq.trans (World.drewN_drewN _ _ _) (congrArg (World.drewN _) (Nat.add_assoc _ _ _))⟩))))
   go_meet
   case rel => exact ⟨_, (true), (by first | rfl | (simp; done) | (simp [*]; done)), H', ⟨by first | omega | exact Nat.le_refl _⟩, ⟨bz HB.out⟩⟩
  subst c5
  have H1 : ((ao_.f ((ar_ l0 0).f1) 10 20000).bind fun t104 => (if t104 = true then ((au_.f k l0).bind fun t105 => (if t105 = true then (ay_.j0 k l0 (decide ((((ar_ l0 0).f3).length : Int) > 24))) else (ay_.j0 k l0 true))) else (ay_.j0 k l0 true))) = some r := by rw [if_pos rfl] at H; exact H
  clear H
  have H := H1
  clear H1
  replace H := Option.bind_eq_some_iff.mp H
  obtain ⟨t104, A60, H⟩ := H
  (try dsimp only at H)
  have A6 := Aside0.mk A60
  clear A60
  by_cases c7 : t104 = true
  rotate_left
  ·replace c7 := Bool.eq_false_iff.mpr c7
   subst c7
   have H1 : (ay_.j0 k l0 true) = some r := by rw [if_neg (show ¬ (false = true) by decide)] at H; exact H
   clear H
   have H := H1
   clear H1
   have H' := Aside0.mk H
   clear H
   have p101 : 0 ≤ (0 : Int) := (by omega)
   have q101 : 0 < (l0.length : Int) := of_decide_eq_true (by assumption)
   obtain ⟨ad101, A101_2, c101_2, A101_3, c101_3, e101, hx101_0, hx101_1, hx101_2, hx101_3, hl101_2, hi101_2, hl101_3, hi101_3⟩ := cc_ HR0.out 0 p101 q101
   cases e101
   have qi101 : (0 < l0.length) = True := eq_true (by omega)
   (try simp only [Int.toNat_zero, Nat.zero_mul, Addr.add_zero'] at hx101_0 hx101_1)
   (try simp only [Int.toNat_zero, Nat.zero_mul, Addr.add_zero'] at hx101_2 hx101_3)
   replace hx101_0 := bu_ HB.out hx101_0
   replace hx101_1 := bu_ HB.out hx101_1
   replace hx101_2 := bu_ HB.out hx101_2
   replace hx101_3 := bu_ HB.out hx101_3
   have HR101_2 := Aside0.mk hi101_2
   have HC101_2 := Aside0.mk hl101_2
   clear hi101_2 hl101_2
   have HR101_3 := Aside0.mk hi101_3
   have HC101_3 := Aside0.mk hl101_3
   clear hi101_3 hl101_3
   replace p101 := eq_true p101
   replace q101 := eq_true q101
   have p103 : 0 ≤ (0 : Int) := (by omega)
   have q103 : 0 < (l0.length : Int) := of_decide_eq_true (by assumption)
   obtain ⟨ad103, A103_2, c103_2, A103_3, c103_3, e103, hx103_0, hx103_1, hx103_2, hx103_3, hl103_2, hi103_2, hl103_3, hi103_3⟩ := cc_ HR0.out 0 p103 q103
   obtain rfl : ad101 = ad103 := (by injection e103)
   have qi103 : (0 < l0.length) = True := eq_true (by omega)
   (try simp only [Int.toNat_zero, Nat.zero_mul, Addr.add_zero'] at hx103_0 hx103_1)
   (try simp only [Int.toNat_zero, Nat.zero_mul, Addr.add_zero'] at hx103_2 hx103_3)
   replace hx103_0 := bu_ HB.out hx103_0
   replace hx103_1 := bu_ HB.out hx103_1
   replace hx103_2 := bu_ HB.out hx103_2
   replace hx103_3 := bu_ HB.out hx103_3
   have HR103_2 := Aside0.mk hi103_2
   have HC103_2 := Aside0.mk hl103_2
   clear hi103_2 hl103_2
   have HR103_3 := Aside0.mk hi103_3
   have HC103_3 := Aside0.mk hl103_3
   clear hi103_3 hl103_3
   replace p103 := eq_true p103
   replace q103 := eq_true q103
   have ea_ := Option.some.inj (hx101_2.symm.trans hx103_2)
   injection ea_ with ea_ en_ ec_
   (try subst ea_)
   (try subst ec_)
   (try clear ea_ ec_)
   clear en_
   have ea_ := Option.some.inj (hx101_3.symm.trans hx103_3)
   injection ea_ with ea_ en_ ec_
   (try subst ea_)
   (try subst ec_)
   (try clear ea_ ec_)
   clear en_
   go_wp2_with (first | (go_at_call 47; (with_reducible refine (ao_.calls ((ar_ l0 0).f0) 10 20000 true _ A4.out).mono ?_); rintro e w' ⟨rfl, ⟨nd, rfl⟩⟩; (try first | exact ⟨rfl, _, World.drewN_drewN _ _ _⟩ | exact ⟨rfl, _, Eq.trans (World.drewN_drewN _ _ _) (congrArg (World.drewN _) (Nat.add_assoc _ _ _))⟩)) | (go_at_call 47; (with_reducible refine (ao_.calls ((ar_ l0 0).f1) 10 20000 false _ A6.out).mono ?_); rintro e w' ⟨rfl, ⟨nd, rfl⟩⟩; (try first | exact ⟨rfl, _, World.drewN_drewN _ _ _⟩ | exact ⟨rfl, _, Eq.trans (World.drewN_drewN _ _ _) (congrArg (World.drewN _) (Nat.add_assoc _ _ _))⟩)))
   repeat (go_quiet (first | (go_at_call 47; (with_reducible refine (ao_.calls ((ar_ l0 0).f0) 10 20000 true _ A4.out).mono ?_); rintro e w' ⟨rfl, ⟨nd, rfl⟩⟩; (try first | exact ⟨rfl, _, World.drewN_drewN _ _ _⟩ | exact ⟨rfl, _, Eq.trans (World.drewN_drewN _ _ _) (congrArg (World.drewN _) (Nat.add_assoc _ _ _))⟩)) | (go_at_call 47; (with_reducible refine (ao_.calls ((ar_ l0 0).f1) 10 20000 false _ A6.out).mono ?_); rintro e w' ⟨rfl, ⟨nd, rfl⟩⟩; (try first | exact ⟨rfl, _, World.drewN_drewN _ _ _⟩ | exact ⟨rfl, _, Eq.trans (World.drewN_drewN _ _ _) (congrArg (World.drewN _) (Nat.add_assoc _ _ _))⟩))); try go_wp2_with (first | (go_at_call 47; (with_reducible refine (ao_.calls ((ar_ l0 0).f0) 10 20000 true _ A4.out).mono ?_); rintro e w' ⟨rfl, ⟨nd, rfl⟩⟩; (try first | exact ⟨rfl, _, World.drewN_drewN _ _ _⟩ | exact ⟨rfl, _, Eq.trans (World.drewN_drewN _ _ _) (congrArg (World.drewN _) (Nat.add_assoc _ _ _))⟩)) | (go_at_call 47; (with_reducible refine (ao_.calls ((ar_ l0 0).f1) 10 20000 false _ A6.out).mono ?_); rintro e w' ⟨rfl, ⟨nd, rfl⟩⟩; (try first | exact ⟨rfl, _, World.drewN_drewN _ _ _⟩ | exact ⟨rfl, _, Eq.trans (World.drewN_drewN _ _ _) (congrArg (World.drewN _) (Nat.add_assoc _ _ _))⟩))))
   go_meet
   case rel => exact ⟨_, (true), (by first | rfl | (simp; done) | (simp [*]; done)), H', ⟨by first | omega | exact Nat.le_refl _⟩, ⟨bz HB.out⟩⟩
  subst c7
  have H1 : ((au_.f k l0).bind fun t105 => (if t105 = true then (ay_.j0 k l0 (decide ((((ar_ l0 0).f3).length : Int) > 24))) else (ay_.j0 k l0 true))) = some r := by rw [if_pos rfl] at H; exact H
  clear H
  have H := H1
  clear H1
  replace H := Option.bind_eq_some_iff.mp H
  obtain ⟨t105, A80, H⟩ := H
  (try dsimp only at H)
  have A8 := Aside0.mk A80
  clear A80
  by_cases c9 : t105 = true
  rotate_left
  ·replace c9 := Bool.eq_false_iff.mpr c9
   subst c9
   have H1 : (ay_.j0 k l0 true) = some r := by rw [if_neg (show ¬ (false = true) by decide)] at H; exact H
   clear H
   have H := H1
   clear H1
   have H' := Aside0.mk H
   clear H
   have p101 : 0 ≤ (0 : Int) := (by omega)
   have q101 : 0 < (l0.length : Int) := of_decide_eq_true (by assumption)
   obtain ⟨ad101, A101_2, c101_2, A101_3, c101_3, e101, hx101_0, hx101_1, hx101_2, hx101_3, hl101_2, hi101_2, hl101_3, hi101_3⟩ := cc_ HR0.out 0 p101 q101
   cases e101
   have qi101 : (0 < l0.length) = True := eq_true (by omega)
   (try simp only [Int.toNat_zero, Nat.zero_mul, Addr.add_zero'] at hx101_0 hx101_1)
   (try simp only [Int.toNat_zero, Nat.zero_mul, Addr.add_zero'] at hx101_2 hx101_3)
   replace hx101_0 := bu_ HB.out hx101_0
   replace hx101_1 := bu_ HB.out hx101_1
   replace hx101_2 := bu_ HB.out hx101_2
   replace hx101_3 := bu_ HB.out hx101_3
   have HR101_2 := Aside0.mk hi101_2
   have HC101_2 := Aside0.mk hl101_2
   clear hi101_2 hl101_2
   have HR101_3 := Aside0.mk hi101_3
   have HC101_3 := Aside0.mk hl101_3
   clear hi101_3 hl101_3
   replace p101 := eq_true p101
   replace q101 := eq_true q101
   have p103 : 0 ≤ (0 : Int) := (by omega)
   have q103 : 0 < (l0.length : Int) := of_decide_eq_true (by assumption)
   obtain ⟨ad103, A103_2, c103_2, A103_3, c103_3, e103, hx103_0, hx103_1, hx103_2, hx103_3, hl103_2, hi103_2, hl103_3, hi103_3⟩ := cc_ HR0.out 0 p103 q103
   obtain rfl : ad101 = ad103 := (by injection e103)
   have qi103 : (0 < l0.length) = True := eq_true (by omega)
   (try simp only [Int.toNat_zero, Nat.zero_mul, Addr.add_zero'] at hx103_0 hx103_1)
   (try simp only [Int.toNat_zero, Nat.zero_mul, Addr.add_zero'] at hx103_2 hx103_3)
   replace hx103_0 := bu_ HB.out hx103_0
   replace hx103_1 := bu_ HB.out hx103_1
   replace hx103_2 := bu_ HB.out hx103_2
   replace hx103_3 := bu_ HB.out hx103_3
   have HR103_2 := Aside0.mk hi103_2
   have HC103_2 := Aside0.mk hl103_2
   clear hi103_2 hl103_2
   have HR103_3 := Aside0.mk hi103_3
   have HC103_3 := Aside0.mk hl103_3
   clear hi103_3 hl103_3
   replace p103 := eq_true p103
   replace q103 := eq_true q103
   have ea_ := Option.some.inj (hx101_2.symm.trans hx103_2)
   injection ea_ with ea_ en_ ec_
   (try subst ea_)
   (try subst ec_)
   (try clear ea_ ec_)
   clear en_
   have ea_ := Option.some.inj (hx101_3.symm.trans hx103_3)
   injection ea_ with ea_ en_ ec_
   (try subst ea_)
   (try subst ec_)
   (try clear ea_ ec_)
   clear en_
   go_wp2_with (first | (go_at_call 47; (with_reducible refine (ao_.calls ((ar_ l0 0).f0) 10 20000 true _ A4.out).mono ?_); rintro e w' ⟨rfl, ⟨nd, rfl⟩⟩; (try first | exact ⟨rfl, _, World.drewN_drewN _ _ _⟩ | exact ⟨rfl, _, Eq.trans (World.drewN_drewN _ _ _) (congrArg (World.drewN _) (Nat.add_assoc _ _ _))⟩)) | (go_at_call 47; (with_reducible refine (ao_.calls ((ar_ l0 0).f1) 10 20000 true _ A6.out).mono ?_); rintro e w' ⟨rfl, ⟨nd, rfl⟩⟩; (try first | exact ⟨rfl, _, World.drewN_drewN _ _ _⟩ | exact ⟨rfl, _, Eq.trans (World.drewN_drewN _ _ _) (congrArg (World.drewN _) (Nat.add_assoc _ _ _))⟩)) | (go_at_call 61; (with_reducible refine (au_.calls k _ l0 false _ ?side1 A8.out).mono ?_); (case side1 => exact cz (Kd.aF_ HR0.out HB.out)); rintro e w' ⟨rfl, ⟨nd, rfl⟩⟩; (try first | exact ⟨rfl, _, World.drewN_drewN _ _ _⟩ | exact ⟨rfl, _, Eq.trans (World.drewN_drewN _ _ _) (congrArg (World.drewN _) (Nat.add_assoc _ _ _))⟩)))
   repeat (go_quiet (first | (go_at_call 47; (with_reducible refine (ao_.calls ((ar_ l0 0).f0) 10 20000 true _ A4.out).mono ?_); rintro e w' ⟨rfl, ⟨nd, rfl⟩⟩; (try first | exact ⟨rfl, _, World.drewN_drewN _ _ _⟩ | exact ⟨rfl, _, Eq.trans (World.drewN_drewN _ _ _) (congrArg (World.drewN _) (Nat.add_assoc _ _ _))⟩)) | (go_at_call 47; (with_reducible refine (ao_.calls ((ar_ l0 0).f1) 10 20000 true _ A6.out).mono ?_); rintro e w' ⟨rfl, ⟨nd, rfl⟩⟩; (try first | exact ⟨rfl, _, World.drewN_drewN _ _ _⟩ | exact ⟨rfl, _, Eq.trans (World.drewN_drewN _ _ _) (congrArg (World.drewN _) (Nat.add_assoc _ _ _))⟩)) | (go_at_call 61; (with_reducible refine (au_.calls k _ l0 false _ ?side1 A8.out).mono ?_); (case side1 => exact cz (Kd.aF_ HR0.out HB.out)); rintro e w' ⟨rfl, ⟨nd, rfl⟩⟩; (try first | exact ⟨rfl, _, World.drewN_drewN _ _ _⟩ | exact ⟨rfl, _, Eq.trans (World.drewN_drewN _ _ _) (congrArg (World.drewN _) (Nat.add_assoc _ _ _))⟩))); try go_wp2_with (first | (go_at_call 47; (with_reducible refine (ao_.calls ((ar_ l0 0).f0) 10 20000 true _ A4.out).mono ?_); rintro e w' ⟨rfl, ⟨nd, rfl⟩⟩; (try first | exact ⟨rfl, _, World.drewN_drewN _ _ _⟩ | exact ⟨rfl, _, Eq.trans (World.drewN_drewN _ _ _) (congrArg (World.drewN _) (Nat.add_assoc _ _ _))⟩)) | (go_at_call 47; (with_reducible refine (ao_.calls ((ar_ l0 0).f1) 10 20000 true _ A6.out).mono ?_); rintro e w' ⟨rfl, ⟨nd, rfl⟩⟩; (try first | exact ⟨rfl, _, World.drewN_drewN _ _ _⟩ | exact ⟨rfl, _, Eq.trans (World.drewN_drewN _ _ _) (congrArg (World.drewN _) (Nat.add_assoc _ _ _))⟩)) | (go_at_call 61; (with_reducible refine (au_.calls k _ l0 false _ ?side1 A8.out).mono ?_); (case side1 => exact cz (Kd.aF_ HR0.out HB.out)); rintro e w' ⟨rfl, ⟨nd, rfl⟩⟩; (try first | exact ⟨rfl, _, World.drewN_drewN _ _ _⟩ | exact ⟨rfl, _, Eq.trans (World.drewN_drewN _ _ _) (congrArg (World.drewN _) (Nat.add_assoc _ _ _))⟩))))
   go_meet
   case rel => exact ⟨_, (true), (by first | rfl | (simp; done) | (simp [*]; done)), H', ⟨by first | omega | exact Nat.le_refl _⟩, ⟨bz HB.out⟩⟩
  subst c9
  have H1 : (ay_.j0 k l0 (decide ((((ar_ l0 0).f3).length : Int) > 24))) = some r := by rw [if_pos rfl] at H; exact H
  clear H
  have H := H1
  clear H1
  have H' := Aside0.mk H
  clear H
  have p101 : 0 ≤ (0 : Int) := (by omega)
  have q101 : 0 < (l0.length : Int) := of_decide_eq_true (by assumption)
  obtain ⟨ad101, A101_2, c101_2, A101_3, c101_3, e101, hx101_0, hx101_1, hx101_2, hx101_3, hl101_2, hi101_2, hl101_3, hi101_3⟩ := cc_ HR0.out 0 p101 q101
  cases e101
  have qi101 : (0 < l0.length) = True := eq_true (by omega)
  (try simp only [Int.toNat_zero, Nat.zero_mul, Addr.add_zero'] at hx101_0 hx101_1)
  (try simp only [Int.toNat_zero, Nat.zero_mul, Addr.add_zero'] at hx101_2 hx101_3)
  replace hx101_0 := bu_ HB.out hx101_0
  replace hx101_1 := bu_ HB.out hx101_1
  replace hx101_2 := bu_ HB.out hx101_2
  replace hx101_3 := bu_ HB.out hx101_3
  have HR101_2 := Aside0.mk hi101_2
  have HC101_2 := Aside0.mk hl101_2
  clear hi101_2 hl101_2
  have HR101_3 := Aside0.mk hi101_3
  have HC101_3 := Aside0.mk hl101_3
  clear hi101_3 hl101_3
  replace p101 := eq_true p101
  replace q101 := eq_true q101
  have p103 : 0 ≤ (0 : Int) := (by omega)
  have q103 : 0 < (l0.length : Int) := of_decide_eq_true (by assumption)
  obtain ⟨ad103, A103_2, c103_2, A103_3, c103_3, e103, hx103_0, hx103_1, hx103_2, hx103_3, hl103_2, hi103_2, hl103_3, hi103_3⟩ := cc_ HR0.out 0 p103 q103
  obtain rfl : ad101 = ad103 := (by injection e103)
  have qi103 : (0 < l0.length) = True := eq_true (by omega)
  (try simp only [Int.toNat_zero, Nat.zero_mul, Addr.add_zero'] at hx103_0 hx103_1)
  (try simp only [Int.toNat_zero, Nat.zero_mul, Addr.add_zero'] at hx103_2 hx103_3)
  replace hx103_0 := bu_ HB.out hx103_0
  replace hx103_1 := bu_ HB.out hx103_1
  replace hx103_2 := bu_ HB.out hx103_2
  replace hx103_3 := bu_ HB.out hx103_3
  have HR103_2 := Aside0.mk hi103_2
  have HC103_2 := Aside0.mk hl103_2
  clear hi103_2 hl103_2
  have HR103_3 := Aside0.mk hi103_3
  have HC103_3 := Aside0.mk hl103_3
  clear hi103_3 hl103_3
  replace p103 := eq_true p103
  replace q103 := eq_true q103
  have ea_ := Option.some.inj (hx101_2.symm.trans hx103_2)
  injection ea_ with ea_ en_ ec_
  (try subst ea_)
  (try subst ec_)
  (try clear ea_ ec_)
  clear en_
  have ea_ := Option.some.inj (hx101_3.symm.trans hx103_3)
  injection ea_ with ea_ en_ ec_
  (try subst ea_)
  (try subst ec_)
  (try clear ea_ ec_)
  clear en_
  have p106 : 0 ≤ (0 : Int) := (by omega)
  have q106 : 0 < (l0.length : Int) := of_decide_eq_true (by assumption)
  obtain ⟨ad106, A106_2, c106_2, A106_3, c106_3, e106, hx106_0, hx106_1, hx106_2, hx106_3, hl106_2, hi106_2, hl106_3, hi106_3⟩ := cc_ HR0.out 0 p106 q106
  obtain rfl : ad101 = ad106 := (by injection e106)
  have qi106 : (0 < l0.length) = True := eq_true (by omega)
  (try simp only [Int.toNat_zero, Nat.zero_mul, Addr.add_zero'] at hx106_0 hx106_1)
  (try simp only [Int.toNat_zero, Nat.zero_mul, Addr.add_zero'] at hx106_2 hx106_3)
  replace hx106_0 := bu_ HB.out hx106_0
  replace hx106_1 := bu_ HB.out hx106_1
  replace hx106_2 := bu_ HB.out hx106_2
  replace hx106_3 := bu_ HB.out hx106_3
  have HR106_2 := Aside0.mk hi106_2
  have HC106_2 := Aside0.mk hl106_2
  clear hi106_2 hl106_2
  have HR106_3 := Aside0.mk hi106_3
  have HC106_3 := Aside0.mk hl106_3
  clear hi106_3 hl106_3
  replace p106 := eq_true p106
  replace q106 := eq_true q106
  have ea_ := Option.some.inj (hx101_2.symm.trans hx106_2)
  injection ea_ with ea_ en_ ec_
  (try subst ea_)
  (try subst ec_)
  (try clear ea_ ec_)
  clear en_
  have ea_ := Option.some.inj (hx101_3.symm.trans hx106_3)
  injection ea_ with ea_ en_ ec_
  (try subst ea_)
  (try subst ec_)
  (try clear ea_ ec_)
  clear en_
  go_wp2_with (first | (go_at_call 47; (with_reducible refine (ao_.calls ((ar_ l0 0).f0) 10 20000 true _ A4.out).mono ?_); rintro e w' ⟨rfl, ⟨nd, rfl⟩⟩; (try first | exact ⟨rfl, _, World.drewN_drewN _ _ _⟩ | exact ⟨rfl, _, Eq.trans (World.drewN_drewN _ _ _) (congrArg (World.drewN _) (Nat.add_assoc _ _ _))⟩)) | (go_at_call 47; (with_reducible refine (ao_.calls ((ar_ l0 0).f1) 10 20000 true _ A6.out).mono ?_); rintro e w' ⟨rfl, ⟨nd, rfl⟩⟩; (try first | exact ⟨rfl, _, World.drewN_drewN _ _ _⟩ | exact ⟨rfl, _, Eq.trans (World.drewN_drewN _ _ _) (congrArg (World.drewN _) (Nat.add_assoc _ _ _))⟩)) | (go_at_call 61; (with_reducible refine (au_.calls k _ l0 true _ ?side1 A8.out).mono ?_); (case side1 => exact cz (Kd.aF_ HR0.out HB.out)); rintro e w' ⟨rfl, ⟨nd, rfl⟩⟩; (try first | exact ⟨rfl, _, World.drewN_drewN _ _ _⟩ | exact ⟨rfl, _, Eq.trans (World.drewN_drewN _ _ _) (congrArg (World.drewN _) (Nat.add_assoc _ _ _))⟩)))
  repeat (go_quiet (first | (go_at_call 47; (with_reducible refine (ao_.calls ((ar_ l0 0).f0) 10 20000 true _ A4.out).mono ?_); rintro e w' ⟨rfl, ⟨nd, rfl⟩⟩; (try first | exact ⟨rfl, _, World.drewN_drewN _ _ _⟩ | exact ⟨rfl, _, Eq.trans (World.drewN_drewN _ _ _) (congrArg (World.drewN _) (Nat.add_assoc _ _ _))⟩)) | (go_at_call 47; (with_reducible refine (ao_.calls ((ar_ l0 0).f1) 10 20000 true _ A6.out).mono ?_); rintro e w' ⟨rfl, ⟨nd, rfl⟩⟩; (try first | exact ⟨rfl, _, World.drewN_drewN _ _ _⟩ | exact ⟨rfl, _, Eq.trans (World.drewN_drewN _ _ _) (congrArg (World.drewN _) (Nat.add_assoc _ _ _))⟩)) | (go_at_call 61; (with_reducible refine (au_.calls k _ l0 true _ ?side1 A8.out).mono ?_); (case side1 => exact cz (Kd.aF_ HR0.out HB.out)); rintro e w' ⟨rfl, ⟨nd, rfl⟩⟩; (try first | exact ⟨rfl, _, World.drewN_drewN _ _ _⟩ | exact ⟨rfl, _, Eq.trans (World.drewN_drewN _ _ _) (congrArg (World.drewN _) (Nat.add_assoc _ _ _))⟩))); try go_wp2_with (first | (go_at_call 47; (with_reducible refine (ao_.calls ((ar_ l0 0).f0) 10 20000 true _ A4.out).mono ?_); rintro e w' ⟨rfl, ⟨nd, rfl⟩⟩; (try first | exact ⟨rfl, _, World.drewN_drewN _ _ _⟩ | exact ⟨rfl, _, Eq.trans (World.drewN_drewN _ _ _) (congrArg (World.drewN _) (Nat.add_assoc _ _ _))⟩)) | (go_at_call 47; (with_reducible refine (ao_.calls ((ar_ l0 0).f1) 10 20000 true _ A6.out).mono ?_); rintro e w' ⟨rfl, ⟨nd, rfl⟩⟩; (try first | exact ⟨rfl, _, World.drewN_drewN _ _ _⟩ | exact ⟨rfl, _, Eq.trans (World.drewN_drewN _ _ _) (congrArg (World.drewN _) (Nat.add_assoc _ _ _))⟩)) | (go_at_call 61; (with_reducible refine (au_.calls k _ l0 true _ ?side1 A8.out).mono ?_); (case side1 => exact cz (Kd.aF_ HR0.out HB.out)); rintro e w' ⟨rfl, ⟨nd, rfl⟩⟩; (try first | exact ⟨rfl, _, World.drewN_drewN _ _ _⟩ | exact ⟨rfl, _, Eq.trans (World.drewN_drewN _ _ _) (congrArg (World.drewN _) (Nat.add_assoc _ _ _))⟩))))
  go_meet
  case rel => exact ⟨_, (decide ((((ar_ l0 0).f3).length : Int) > 24)), (by first | rfl | (simp; done) | (simp [*]; done)), H', ⟨by first | omega | exact Nat.le_refl _⟩, ⟨bz HB.out⟩⟩
 case rest =>
  clear HC2
  obtain ⟨kq, x32_1, rfl, HA, HJ1, HB⟩ := hcut
  cases kq with
  | zero => exact absurd HA.out (by simp [ay_.j0])
  | succ kj1 =>
   have H := HA.out
   clear HA
   simp only [ay_.j0] at H
   by_cases c10 : x32_1 = true
   rotate_left
   ·replace c10 := Bool.eq_false_iff.mpr c10
    subst c10
    have H1 : (ay_.l0 kj1 l0 0) = some r := by rw [if_neg (show ¬ (false = true) by decide)] at H; exact H
    clear H
    have H := H1
    clear H1
    have H' := Aside0.mk H
    clear H
    go_wp2
    repeat (go_quiet (fail); try go_wp2)
    (try simp only [Act.put, lsa_, ls0_, ls1_])
    go_loopg [3] kj1 (fun kq v3 w' => ∃ (x3_2 : Int), v3 = .int .i64 x3_2 ∧ Aside0 (ay_.l0 kq l0 x3_2 = some r) ∧ Aside0 (kq ≤ kj1) ∧ Aside0 (Below w.heap.size w w'))
    case atStart => exact ⟨(0), (by first | rfl | (simp; done) | (simp [*]; done)), H', ⟨Nat.le_refl _⟩, ⟨bz HB.out⟩⟩
    case round =>
     clear H'
     obtain ⟨x3_2, rfl, HA, HK2, HB⟩ := hrel
     cases gk with
     | zero => exact absurd HA.out (by simp [ay_.l0])
     | succ k2 =>
      have H := HA.out
      clear HA
      simp only [ay_.l0] at H
      by_cases c11 : 0 < (l0.length : Int)
      rotate_left
      ·rw [if_neg c11] at H
       exact absurd H (by simp)
      rw [if_pos c11] at H
      have c11b0 : decide (0 < (l0.length : Int)) = true := decide_eq_true c11
      have c11b1 : decide (0 < l0.length) = true := decide_eq_true (by omega)
      clear c11
      by_cases c12 : x3_2 < (((ar_ l0 0).f3).length : Int)
      rotate_left
      ·rw [if_neg c12] at H
       have c12b0 : decide (x3_2 < (((ar_ l0 0).f3).length : Int)) = false := decide_eq_false c12
       clear c12
       obtain rfl := Option.some.inj H
       have p107 : 0 ≤ (0 : Int) := (by omega)
       have q107 : 0 < (l0.length : Int) := of_decide_eq_true (by assumption)
       obtain ⟨ad107, A107_2, c107_2, A107_3, c107_3, e107, hx107_0, hx107_1, hx107_2, hx107_3, hl107_2, hi107_2, hl107_3, hi107_3⟩ := cc_ HR0.out 0 p107 q107
       cases e107
       have qi107 : (0 < l0.length) = True := eq_true (by omega)
       (try simp only [Int.toNat_zero, Nat.zero_mul, Addr.add_zero'] at hx107_0 hx107_1)
       (try simp only [Int.toNat_zero, Nat.zero_mul, Addr.add_zero'] at hx107_2 hx107_3)
       replace hx107_0 := bu_ HB.out hx107_0
       replace hx107_1 := bu_ HB.out hx107_1
       replace hx107_2 := bu_ HB.out hx107_2
       replace hx107_3 := bu_ HB.out hx107_3
       have HR107_2 := Aside0.mk hi107_2
       have HC107_2 := Aside0.mk hl107_2
       clear hi107_2 hl107_2
       have HR107_3 := Aside0.mk hi107_3
       have HC107_3 := Aside0.mk hl107_3
       clear hi107_3 hl107_3
       replace p107 := eq_true p107
       replace q107 := eq_true q107
       (try clear hx101_2)
       (try clear hx101_3)
       (try clear hx103_2)
       (try clear hx103_3)
       (try clear hx106_2)
       (try clear hx106_3)
       (try clear hx101_2)
       (try clear hx101_3)
       (try clear hx103_2)
       (try clear hx103_3)
       (try clear hx101_2)
       (try clear hx101_3)
       (try clear hx103_2)
       (try clear hx103_3)
       (try clear hx101_2)
       (try clear hx101_3)
       go_wp2
       repeat (go_quiet (fail); try go_wp2)
       go_ret
       exact ⟨by first | rfl | (simp [*, ah_, ai_] <;> rfl), bz HB.out⟩
      rw [if_pos c12] at H
      have c12b0 : decide (x3_2 < (((ar_ l0 0).f3).length : Int)) = true := decide_eq_true c12
      clear c12
      have HC13 := Aside0.mk H
      clear H
      have p107 : 0 ≤ (0 : Int) := (by omega)
      have q107 : 0 < (l0.length : Int) := of_decide_eq_true (by assumption)
      obtain ⟨ad107, A107_2, c107_2, A107_3, c107_3, e107, hx107_0, hx107_1, hx107_2, hx107_3, hl107_2, hi107_2, hl107_3, hi107_3⟩ := cc_ HR0.out 0 p107 q107
      cases e107
      have qi107 : (0 < l0.length) = True := eq_true (by omega)
      (try simp only [Int.toNat_zero, Nat.zero_mul, Addr.add_zero'] at hx107_0 hx107_1)
      (try simp only [Int.toNat_zero, Nat.zero_mul, Addr.add_zero'] at hx107_2 hx107_3)
      replace hx107_0 := bu_ HB.out hx107_0
      replace hx107_1 := bu_ HB.out hx107_1
      replace hx107_2 := bu_ HB.out hx107_2
      replace hx107_3 := bu_ HB.out hx107_3
      have HR107_2 := Aside0.mk hi107_2
      have HC107_2 := Aside0.mk hl107_2
      clear hi107_2 hl107_2
      have HR107_3 := Aside0.mk hi107_3
      have HC107_3 := Aside0.mk hl107_3
      clear hi107_3 hl107_3
      replace p107 := eq_true p107
      replace q107 := eq_true q107
      (try clear hx101_2)
      (try clear hx101_3)
      (try clear hx103_2)
      (try clear hx103_3)
      (try clear hx106_2)
      (try clear hx106_3)
      (try clear hx101_2)
      (try clear hx101_3)
      (try clear hx103_2)
      (try clear hx103_3)
      (try clear hx101_2)
      (try clear hx101_3)
      (try clear hx103_2)
      (try clear hx103_3)
      (try clear hx101_2)
      (try clear hx101_3)
      go_upto_region 6 with (fail)
      repeat (go_quiet (fail); go_upto_region 6 with (fail))
      go_cut [75] (fun v75 wc => ∃ (kq : Nat) (x75_12 : Bool), v75 = .bool x75_12 ∧ Aside0 (ay_.j2 kq l0 x3_2 x75_12 = some r) ∧ Aside0 (kq ≤ k2) ∧ Aside0 (Below w.heap.size w wc))
      case first =>
       have H := HC13.out
       clear HC13
       by_cases c14 : 0 ≤ x3_2
       rotate_left
       ·rw [if_neg c14] at H
        exact absurd H (by simp)
       rw [if_pos c14] at H
       have c14b0 : decide (0 ≤ x3_2) = true := decide_eq_true c14
       clear c14
       (first | rw [c14b0] | (simp only [i64_w, i32_w]; rw [c14b0]) | (simp only [c14b1, Bool.not_true, Bool.not_false]) | (simp only [c14b0, Bool.not_true, Bool.not_false]) | skip)
       replace H := Option.bind_eq_some_iff.mp H
       obtain ⟨t110, A150, H⟩ := H
       (try dsimp only at H)
       have A15 := Aside0.mk A150
       clear A150
       by_cases c16 : t110 = true
       rotate_left
       ·replace c16 := Bool.eq_false_iff.mpr c16
        subst c16
        have H1 : (ay_.j2 k2 l0 x3_2 true) = some r := by rw [if_neg (show ¬ (false = true) by decide)] at H; exact H
        clear H
        have H := H1
        clear H1
        have H' := Aside0.mk H
        clear H
        have p108 : 0 ≤ (0 : Int) := (by omega)
        have q108 : 0 < (l0.length : Int) := of_decide_eq_true (by assumption)
        obtain ⟨ad108, A108_2, c108_2, A108_3, c108_3, e108, hx108_0, hx108_1, hx108_2, hx108_3, hl108_2, hi108_2, hl108_3, hi108_3⟩ := cc_ HR0.out 0 p108 q108
        obtain rfl : ad107 = ad108 := (by injection e108)
        have qi108 : (0 < l0.length) = True := eq_true (by omega)
        (try simp only [Int.toNat_zero, Nat.zero_mul, Addr.add_zero'] at hx108_0 hx108_1)
        (try simp only [Int.toNat_zero, Nat.zero_mul, Addr.add_zero'] at hx108_2 hx108_3)
        replace hx108_0 := bu_ HB.out hx108_0
        replace hx108_1 := bu_ HB.out hx108_1
        replace hx108_2 := bu_ HB.out hx108_2
        replace hx108_3 := bu_ HB.out hx108_3
        have HR108_2 := Aside0.mk hi108_2
        have HC108_2 := Aside0.mk hl108_2
        clear hi108_2 hl108_2
        have HR108_3 := Aside0.mk hi108_3
        have HC108_3 := Aside0.mk hl108_3
        clear hi108_3 hl108_3
        replace p108 := eq_true p108
        replace q108 := eq_true q108
        (try clear hx101_2)
        (try clear hx101_3)
        (try clear hx103_2)
        (try clear hx103_3)
        (try clear hx106_2)
        (try clear hx106_3)
        (try clear hx101_2)
        (try clear hx101_3)
        (try clear hx103_2)
        (try clear hx103_3)
        (try clear hx101_2)
        (try clear hx101_3)
        (try clear hx103_2)
        (try clear hx103_3)
        (try clear hx101_2)
        (try clear hx101_3)
        (try clear hx107_2)
        (try clear hx107_3)
        have p109 : 0 ≤ (x3_2 : Int) := of_decide_eq_true (by assumption)
        have q109 : x3_2 < (((ar_ l0 0).f3).length : Int) := of_decide_eq_true (by assumption)
        obtain ⟨ad109, A109_1, c109_1, e109, hx109_0, hx109_1, hl109_1, hi109_1⟩ := at_T85 HR108_3.out x3_2 p109 q109
        cases e109
        replace hx109_0 := bu_ HB.out hx109_0
        replace hx109_1 := bu_ HB.out hx109_1
        have HR109_1 := Aside0.mk hi109_1
        have HC109_1 := Aside0.mk hl109_1
        clear hi109_1 hl109_1
        replace p109 := eq_true p109
        replace q109 := eq_true q109
        go_wp2_with (first | (go_at_call 62; (with_reducible refine (aJ_.calls k2 ((aA_ ((ar_ l0 0).f3) x3_2).f0) false _ A15.out).mono ?_); rintro e w' ⟨rfl, ⟨nd, rfl⟩⟩; (try first | exact ⟨rfl, _, World.drewN_drewN _ _ _⟩ | exact ⟨rfl, _, Eq.trans (World.drewN_drewN _ _ _) (congrArg (World.drewN _) (Nat.add_assoc _ _ _))⟩)))
        repeat (go_quiet (first | (go_at_call 62; (with_reducible refine (aJ_.calls k2 ((aA_ ((ar_ l0 0).f3) x3_2).f0) false _ A15.out).mono ?_); rintro e w' ⟨rfl, ⟨nd, rfl⟩⟩; (try first | exact ⟨rfl, _, World.drewN_drewN _ _ _⟩ | exact ⟨rfl, _, Eq.trans (World.drewN_drewN _ _ _) (congrArg (World.drewN _) (Nat.add_assoc _ _ _))⟩))); try go_wp2_with (first | (go_at_call 62; (with_reducible refine (aJ_.calls k2 ((aA_ ((ar_ l0 0).f3) x3_2).f0) false _ A15.out).mono ?_); rintro e w' ⟨rfl, ⟨nd, rfl⟩⟩; (try first | exact ⟨rfl, _, World.drewN_drewN _ _ _⟩ | exact ⟨rfl, _, Eq.trans (World.drewN_drewN _ _ _) (congrArg (World.drewN _) (Nat.add_assoc _ _ _))⟩))))
        go_meet
        case rel => exact ⟨_, (true), (by first | rfl | (simp; done) | (simp [*]; done)), H', ⟨by have := HJ1.out; have := HK2.out; first | omega | exact Nat.le_refl _⟩, ⟨bz HB.out⟩⟩
       subst c16
       have H1 : (if x3_2 > 0 then (if 0 ≤ (wrap64 (x3_2 - 1)) then (if (wrap64 (x3_2 - 1)) < (((ar_ l0 0).f3).length : Int) then (ay_.j2 k2 l0 x3_2 (!(Op.bytesLess (((aA_ ((ar_ l0 0).f3) (wrap64 (x3_2 - 1))).f0).toList) (((aA_ ((ar_ l0 0).f3) x3_2).f0).toList)))) else (none)) else (none)) else (ay_.j2 k2 l0 x3_2 false)) = some r := by rw [if_pos rfl] at H; exact H
       clear H
       have H := H1
       clear H1
       by_cases c17 : x3_2 > 0
       rotate_left
       ·rw [if_neg c17] at H
        have c17b0 : decide (0 < x3_2) = false := decide_eq_false c17
        clear c17
        have H' := Aside0.mk H
        clear H
        have p108 : 0 ≤ (0 : Int) := (by omega)
        have q108 : 0 < (l0.length : Int) := of_decide_eq_true (by assumption)
        obtain ⟨ad108, A108_2, c108_2, A108_3, c108_3, e108, hx108_0, hx108_1, hx108_2, hx108_3, hl108_2, hi108_2, hl108_3, hi108_3⟩ := cc_ HR0.out 0 p108 q108
        obtain rfl : ad107 = ad108 := (by injection e108)
        have qi108 : (0 < l0.length) = True := eq_true (by omega)
        (try simp only [Int.toNat_zero, Nat.zero_mul, Addr.add_zero'] at hx108_0 hx108_1)
        (try simp only [Int.toNat_zero, Nat.zero_mul, Addr.add_zero'] at hx108_2 hx108_3)
        replace hx108_0 := bu_ HB.out hx108_0
        replace hx108_1 := bu_ HB.out hx108_1
        replace hx108_2 := bu_ HB.out hx108_2
        replace hx108_3 := bu_ HB.out hx108_3
        have HR108_2 := Aside0.mk hi108_2
        have HC108_2 := Aside0.mk hl108_2
        clear hi108_2 hl108_2
        have HR108_3 := Aside0.mk hi108_3
        have HC108_3 := Aside0.mk hl108_3
        clear hi108_3 hl108_3
        replace p108 := eq_true p108
        replace q108 := eq_true q108
        (try clear hx101_2)
        (try clear hx101_3)
        (try clear hx103_2)
        (try clear hx103_3)
        (try clear hx106_2)
        (try clear hx106_3)
        (try clear hx101_2)
        (try clear hx101_3)
        (try clear hx103_2)
        (try clear hx103_3)
        (try clear hx101_2)
        (try clear hx101_3)
        (try clear hx103_2)
        (try clear hx103_3)
        (try clear hx101_2)
        (try clear hx101_3)
        (try clear hx107_2)
        (try clear hx107_3)
        have p109 : 0 ≤ (x3_2 : Int) := of_decide_eq_true (by assumption)
        have q109 : x3_2 < (((ar_ l0 0).f3).length : Int) := of_decide_eq_true (by assumption)
        obtain ⟨ad109, A109_1, c109_1, e109, hx109_0, hx109_1, hl109_1, hi109_1⟩ := at_T85 HR108_3.out x3_2 p109 q109
        cases e109
        replace hx109_0 := bu_ HB.out hx109_0
        replace hx109_1 := bu_ HB.out hx109_1
        have HR109_1 := Aside0.mk hi109_1
        have HC109_1 := Aside0.mk hl109_1
        clear hi109_1 hl109_1
        replace p109 := eq_true p109
        replace q109 := eq_true q109
        go_wp2_with (first | (go_at_call 62; (with_reducible refine (aJ_.calls k2 ((aA_ ((ar_ l0 0).f3) x3_2).f0) true _ A15.out).mono ?_); rintro e w' ⟨rfl, ⟨nd, rfl⟩⟩; (try first | exact ⟨rfl, _, World.drewN_drewN _ _ _⟩ | exact ⟨rfl, _, Eq.trans (World.drewN_drewN _ _ _) (congrArg (World.drewN _) (Nat.add_assoc _ _ _))⟩)))
        repeat (go_quiet (first | (go_at_call 62; (with_reducible refine (aJ_.calls k2 ((aA_ ((ar_ l0 0).f3) x3_2).f0) true _ A15.out).mono ?_); rintro e w' ⟨rfl, ⟨nd, rfl⟩⟩; (try first | exact ⟨rfl, _, World.drewN_drewN _ _ _⟩ | exact ⟨rfl, _, Eq.trans (World.drewN_drewN _ _ _) (congrArg (World.drewN _) (Nat.add_assoc _ _ _))⟩))); try go_wp2_with (first | (go_at_call 62; (with_reducible refine (aJ_.calls k2 ((aA_ ((ar_ l0 0).f3) x3_2).f0) true _ A15.out).mono ?_); rintro e w' ⟨rfl, ⟨nd, rfl⟩⟩; (try first | exact ⟨rfl, _, World.drewN_drewN _ _ _⟩ | exact ⟨rfl, _, Eq.trans (World.drewN_drewN _ _ _) (congrArg (World.drewN _) (Nat.add_assoc _ _ _))⟩))))
        go_meet
        case rel => exact ⟨_, (false), (by first | rfl | (simp; done) | (simp [*]; done)), H', ⟨by have := HJ1.out; have := HK2.out; first | omega | exact Nat.le_refl _⟩, ⟨bz HB.out⟩⟩
       rw [if_pos c17] at H
       have c17b0 : decide (0 < x3_2) = true := decide_eq_true c17
       clear c17
       obtain ⟨ji18, hji18⟩ : ∃ j_ : Int, (wrap64 (x3_2 - 1)) = j_ := ⟨_, rfl⟩
       replace H : (if 0 ≤ (ji18) then (if (ji18) < (((ar_ l0 0).f3).length : Int) then (ay_.j2 k2 l0 x3_2 (!(Op.bytesLess (((aA_ ((ar_ l0 0).f3) (ji18)).f0).toList) (((aA_ ((ar_ l0 0).f3) x3_2).f0).toList)))) else (none)) else (none)) = some r := by first | (rw [hji18] at H; exact H) | (simp only [hji18] at H ⊢; exact H)
       (try rw [hji18] at A15)
       have hji18w : (IntKind.i64.wrap (x3_2 - 1)) = ji18 := (i64_w _).trans hji18
       by_cases c19 : 0 ≤ (ji18)
       rotate_left
       ·rw [if_neg c19] at H
        exact absurd H (by simp)
       rw [if_pos c19] at H
       have c19b0 : decide (0 ≤ (ji18)) = true := decide_eq_true c19
       clear c19
       by_cases c20 : (ji18) < (((ar_ l0 0).f3).length : Int)
       rotate_left
       ·rw [if_neg c20] at H
        exact absurd H (by simp)
       rw [if_pos c20] at H
       have c20b0 : decide ((ji18) < (((ar_ l0 0).f3).length : Int)) = true := decide_eq_true c20
       clear c20
       have H' := Aside0.mk H
       clear H
       have p108 : 0 ≤ (0 : Int) := (by omega)
       have q108 : 0 < (l0.length : Int) := of_decide_eq_true (by assumption)
       obtain ⟨ad108, A108_2, c108_2, A108_3, c108_3, e108, hx108_0, hx108_1, hx108_2, hx108_3, hl108_2, hi108_2, hl108_3, hi108_3⟩ := cc_ HR0.out 0 p108 q108
       obtain rfl : ad107 = ad108 := (by injection e108)
       have qi108 : (0 < l0.length) = True := eq_true (by omega)
       (try simp only [Int.toNat_zero, Nat.zero_mul, Addr.add_zero'] at hx108_0 hx108_1)
       (try simp only [Int.toNat_zero, Nat.zero_mul, Addr.add_zero'] at hx108_2 hx108_3)
       replace hx108_0 := bu_ HB.out hx108_0
       replace hx108_1 := bu_ HB.out hx108_1
       replace hx108_2 := bu_ HB.out hx108_2
       replace hx108_3 := bu_ HB.out hx108_3
       have HR108_2 := Aside0.mk hi108_2
       have HC108_2 := Aside0.mk hl108_2
       clear hi108_2 hl108_2
       have HR108_3 := Aside0.mk hi108_3
       have HC108_3 := Aside0.mk hl108_3
       clear hi108_3 hl108_3
       replace p108 := eq_true p108
       replace q108 := eq_true q108
       (try clear hx101_2)
       (try clear hx101_3)
       (try clear hx103_2)
       (try clear hx103_3)
       (try clear hx106_2)
       (try clear hx106_3)
       (try clear hx101_2)
       (try clear hx101_3)
       (try clear hx103_2)
       (try clear hx103_3)
       (try clear hx101_2)
       (try clear hx101_3)
       (try clear hx103_2)
       (try clear hx103_3)
       (try clear hx101_2)
       (try clear hx101_3)
       (try clear hx107_2)
       (try clear hx107_3)
       have p109 : 0 ≤ (x3_2 : Int) := of_decide_eq_true (by assumption)
       have q109 : x3_2 < (((ar_ l0 0).f3).length : Int) := of_decide_eq_true (by assumption)
       obtain ⟨ad109, A109_1, c109_1, e109, hx109_0, hx109_1, hl109_1, hi109_1⟩ := at_T85 HR108_3.out x3_2 p109 q109
       cases e109
       replace hx109_0 := bu_ HB.out hx109_0
       replace hx109_1 := bu_ HB.out hx109_1
       have HR109_1 := Aside0.mk hi109_1
       have HC109_1 := Aside0.mk hl109_1
       clear hi109_1 hl109_1
       replace p109 := eq_true p109
       replace q109 := eq_true q109
       have p111 : 0 ≤ (0 : Int) := (by omega)
       have q111 : 0 < (l0.length : Int) := of_decide_eq_true (by assumption)
       obtain ⟨ad111, A111_2, c111_2, A111_3, c111_3, e111, hx111_0, hx111_1, hx111_2, hx111_3, hl111_2, hi111_2, hl111_3, hi111_3⟩ := cc_ HR0.out 0 p111 q111
       obtain rfl : ad107 = ad111 := (by injection e111)
       have qi111 : (0 < l0.length) = True := eq_true (by omega)
       (try simp only [Int.toNat_zero, Nat.zero_mul, Addr.add_zero'] at hx111_0 hx111_1)
       (try simp only [Int.toNat_zero, Nat.zero_mul, Addr.add_zero'] at hx111_2 hx111_3)
       replace hx111_0 := bu_ HB.out hx111_0
       replace hx111_1 := bu_ HB.out hx111_1
       replace hx111_2 := bu_ HB.out hx111_2
       replace hx111_3 := bu_ HB.out hx111_3
       have HR111_2 := Aside0.mk hi111_2
       have HC111_2 := Aside0.mk hl111_2
       clear hi111_2 hl111_2
       have HR111_3 := Aside0.mk hi111_3
       have HC111_3 := Aside0.mk hl111_3
       clear hi111_3 hl111_3
       replace p111 := eq_true p111
       replace q111 := eq_true q111
       have ea_ := Option.some.inj (hx108_2.symm.trans hx111_2)
       injection ea_ with ea_ en_ ec_
       (try subst ea_)
       (try subst ec_)
       (try clear ea_ ec_)
       clear en_
       have ea_ := Option.some.inj (hx108_3.symm.trans hx111_3)
       injection ea_ with ea_ en_ ec_
       (try subst ea_)
       (try subst ec_)
       (try clear ea_ ec_)
       clear en_
       have p112 : 0 ≤ ((ji18) : Int) := of_decide_eq_true (by assumption)
       have q112 : (ji18) < (((ar_ l0 0).f3).length : Int) := of_decide_eq_true (by assumption)
       obtain ⟨ad112, A112_1, c112_1, e112, hx112_0, hx112_1, hl112_1, hi112_1⟩ := at_T85 HR111_3.out (ji18) p112 q112
       obtain rfl : ad109 = ad112 := (by injection e112)
       replace hx112_0 := bu_ HB.out hx112_0
       replace hx112_1 := bu_ HB.out hx112_1
       have HR112_1 := Aside0.mk hi112_1
       have HC112_1 := Aside0.mk hl112_1
       clear hi112_1 hl112_1
       replace p112 := eq_true p112
       replace q112 := eq_true q112
       have p113 : 0 ≤ (0 : Int) := (by omega)
       have q113 : 0 < (l0.length : Int) := of_decide_eq_true (by assumption)
       obtain ⟨ad113, A113_2, c113_2, A113_3, c113_3, e113, hx113_0, hx113_1, hx113_2, hx113_3, hl113_2, hi113_2, hl113_3, hi113_3⟩ := cc_ HR0.out 0 p113 q113
       obtain rfl : ad107 = ad113 := (by injection e113)
       have qi113 : (0 < l0.length) = True := eq_true (by omega)
       (try simp only [Int.toNat_zero, Nat.zero_mul, Addr.add_zero'] at hx113_0 hx113_1)
       (try simp only [Int.toNat_zero, Nat.zero_mul, Addr.add_zero'] at hx113_2 hx113_3)
       replace hx113_0 := bu_ HB.out hx113_0
       replace hx113_1 := bu_ HB.out hx113_1
       replace hx113_2 := bu_ HB.out hx113_2
       replace hx113_3 := bu_ HB.out hx113_3
       have HR113_2 := Aside0.mk hi113_2
       have HC113_2 := Aside0.mk hl113_2
       clear hi113_2 hl113_2
       have HR113_3 := Aside0.mk hi113_3
       have HC113_3 := Aside0.mk hl113_3
       clear hi113_3 hl113_3
       replace p113 := eq_true p113
       replace q113 := eq_true q113
       have ea_ := Option.some.inj (hx108_2.symm.trans hx113_2)
       injection ea_ with ea_ en_ ec_
       (try subst ea_)
       (try subst ec_)
       (try clear ea_ ec_)
       clear en_
       have ea_ := Option.some.inj (hx108_3.symm.trans hx113_3)
       injection ea_ with ea_ en_ ec_
       (try subst ea_)
       (try subst ec_)
       (try clear ea_ ec_)
       clear en_
       have p114 : 0 ≤ (x3_2 : Int) := of_decide_eq_true (by assumption)
       have q114 : x3_2 < (((ar_ l0 0).f3).length : Int) := of_decide_eq_true (by assumption)
       obtain ⟨ad114, A114_1, c114_1, e114, hx114_0, hx114_1, hl114_1, hi114_1⟩ := at_T85 HR113_3.out x3_2 p114 q114
       obtain rfl : ad109 = ad114 := (by injection e114)
       replace hx114_0 := bu_ HB.out hx114_0
       replace hx114_1 := bu_ HB.out hx114_1
       have HR114_1 := Aside0.mk hi114_1
       have HC114_1 := Aside0.mk hl114_1
       clear hi114_1 hl114_1
       replace p114 := eq_true p114
       replace q114 := eq_true q114
       go_wp2_with (first | (go_at_call 62; (with_reducible refine (aJ_.calls k2 ((aA_ ((ar_ l0 0).f3) x3_2).f0) true _ A15.out).mono ?_); rintro e w' ⟨rfl, ⟨nd, rfl⟩⟩; (try first | exact ⟨rfl, _, World.drewN_drewN _ _ _⟩ | exact ⟨rfl, _, Eq.trans (World.drewN_drewN _ _ _) (congrArg (World.drewN _) (Nat.add_assoc _ _ _))⟩)))
       repeat (go_quiet (first | (go_at_call 62; (with_reducible refine (aJ_.calls k2 ((aA_ ((ar_ l0 0).f3) x3_2).f0) true _ A15.out).mono ?_); rintro e w' ⟨rfl, ⟨nd, rfl⟩⟩; (try first | exact ⟨rfl, _, World.drewN_drewN _ _ _⟩ | exact ⟨rfl, _, Eq.trans (World.drewN_drewN _ _ _) (congrArg (World.drewN _) (Nat.add_assoc _ _ _))⟩))); try go_wp2_with (first | (go_at_call 62; (with_reducible refine (aJ_.calls k2 ((aA_ ((ar_ l0 0).f3) x3_2).f0) true _ A15.out).mono ?_); rintro e w' ⟨rfl, ⟨nd, rfl⟩⟩; (try first | exact ⟨rfl, _, World.drewN_drewN _ _ _⟩ | exact ⟨rfl, _, Eq.trans (World.drewN_drewN _ _ _) (congrArg (World.drewN _) (Nat.add_assoc _ _ _))⟩))))
       go_meet
       case rel => exact ⟨_, (!(Op.bytesLess (((aA_ ((ar_ l0 0).f3) (ji18)).f0).toList) (((aA_ ((ar_ l0 0).f3) x3_2).f0).toList))), (by first | rfl | (simp; done) | (simp only [← hji18] <;> (first | rfl | simp)) | (simp [*]; done)), H', ⟨by have := HJ1.out; have := HK2.out; first | omega | exact Nat.le_refl _⟩, ⟨bz HB.out⟩⟩
      case rest =>
       clear HC13
       obtain ⟨kq, x75_12, rfl, HA, HJ12, HB⟩ := hcut
       cases kq with
       | zero => exact absurd HA.out (by simp [ay_.j2])
       | succ kj12 =>
        have H := HA.out
        clear HA
        simp only [ay_.j2] at H
        by_cases c21 : x75_12 = true
        rotate_left
        ·replace c21 := Bool.eq_false_iff.mpr c21
         subst c21
         have H1 : (if 0 < (l0.length : Int) then (if 0 ≤ x3_2 then (if x3_2 < (((ar_ l0 0).f3).length : Int) then ((aG_.f kj12 l0 ((aA_ ((ar_ l0 0).f3) x3_2).f1)).bind fun bt117 => (if bt117.2 = true then ((aq_.f kj12 bt117.1).bind fun t121 => (if t121 = true then (ay_.l0 kj12 l0 (wrap64 (x3_2 + 1))) else (some false))) else (some false))) else (none)) else (none)) else (none)) = some r := by rw [if_neg (show ¬ (false = true) by decide)] at H; exact H
         clear H
         have H := H1
         clear H1
         by_cases c22 : 0 < (l0.length : Int)
         rotate_left
         ·rw [if_neg c22] at H
          exact absurd H (by simp)
         rw [if_pos c22] at H
         have c22b0 : decide (0 < (l0.length : Int)) = true := decide_eq_true c22
         have c22b1 : decide (0 < l0.length) = true := decide_eq_true (by omega)
         clear c22
         by_cases c23 : 0 ≤ x3_2
         rotate_left
         ·rw [if_neg c23] at H
          exact absurd H (by simp)
         rw [if_pos c23] at H
         have c23b0 : decide (0 ≤ x3_2) = true := decide_eq_true c23
         clear c23
         by_cases c24 : x3_2 < (((ar_ l0 0).f3).length : Int)
         rotate_left
         ·rw [if_neg c24] at H
          exact absurd H (by simp)
         rw [if_pos c24] at H
         have c24b0 : decide (x3_2 < (((ar_ l0 0).f3).length : Int)) = true := decide_eq_true c24
         clear c24
         replace H := Option.bind_eq_some_iff.mp H
         obtain ⟨⟨t117, t118⟩, A250, H⟩ := H
         (try dsimp only at H)
         have A25 := Aside0.mk A250
         clear A250
         by_cases c26 : t118 = true
         rotate_left
         ·replace c26 := Bool.eq_false_iff.mpr c26
          subst c26
          have H1 : (some false) = some r := by rw [if_neg (show ¬ (false = true) by decide)] at H; exact H
          clear H
          have H := H1
          clear H1
          obtain rfl := Option.some.inj H
          have p115 : 0 ≤ (0 : Int) := (by omega)
          have q115 : 0 < (l0.length : Int) := of_decide_eq_true (by assumption)
          obtain ⟨ad115, A115_2, c115_2, A115_3, c115_3, e115, hx115_0, hx115_1, hx115_2, hx115_3, hl115_2, hi115_2, hl115_3, hi115_3⟩ := cc_ HR0.out 0 p115 q115
          obtain rfl : ad107 = ad115 := (by injection e115)
          have qi115 : (0 < l0.length) = True := eq_true (by omega)
          (try simp only [Int.toNat_zero, Nat.zero_mul, Addr.add_zero'] at hx115_0 hx115_1)
          (try simp only [Int.toNat_zero, Nat.zero_mul, Addr.add_zero'] at hx115_2 hx115_3)
          replace hx115_0 := bu_ HB.out hx115_0
          replace hx115_1 := bu_ HB.out hx115_1
          replace hx115_2 := bu_ HB.out hx115_2
          replace hx115_3 := bu_ HB.out hx115_3
          have HR115_2 := Aside0.mk hi115_2
          have HC115_2 := Aside0.mk hl115_2
          clear hi115_2 hl115_2
          have HR115_3 := Aside0.mk hi115_3
          have HC115_3 := Aside0.mk hl115_3
          clear hi115_3 hl115_3
          replace p115 := eq_true p115
          replace q115 := eq_true q115
          (try clear hx101_2)
          (try clear hx101_3)
          (try clear hx103_2)
          (try clear hx103_3)
          (try clear hx106_2)
          (try clear hx106_3)
          (try clear hx101_2)
          (try clear hx101_3)
          (try clear hx103_2)
          (try clear hx103_3)
          (try clear hx101_2)
          (try clear hx101_3)
          (try clear hx103_2)
          (try clear hx103_3)
          (try clear hx101_2)
          (try clear hx101_3)
          (try clear hx107_2)
          (try clear hx107_3)
          (try clear hx108_2)
          (try clear hx108_3)
          (try clear hx111_2)
          (try clear hx111_3)
          (try clear hx113_2)
          (try clear hx113_3)
          (try clear hx108_2)
          (try clear hx108_3)
          (try clear hx108_2)
          (try clear hx108_3)
          have p116 : 0 ≤ (x3_2 : Int) := of_decide_eq_true (by assumption)
          have q116 : x3_2 < (((ar_ l0 0).f3).length : Int) := of_decide_eq_true (by assumption)
          obtain ⟨ad116, A116_1, c116_1, e116, hx116_0, hx116_1, hl116_1, hi116_1⟩ := at_T85 HR115_3.out x3_2 p116 q116
          cases e116
          replace hx116_0 := bu_ HB.out hx116_0
          replace hx116_1 := bu_ HB.out hx116_1
          have HR116_1 := Aside0.mk hi116_1
          have HC116_1 := Aside0.mk hl116_1
          clear hi116_1 hl116_1
          replace p116 := eq_true p116
          replace q116 := eq_true q116
          go_wp2_with (first | (go_at_call 48; (with_reducible refine (aG_.calls kj12 _ l0 _ _ ((aA_ ((ar_ l0 0).f3) x3_2).f1) t117 false _ ?side1 ?side2 ?side3 A25.out).mono ?_); (case side1 => exact cz (Kd.aF_ HR0.out HB.out)); (case side2 => exact cz (Kd.aF_ HR116_1.out HB.out)); (case side3 => exact HC116_1.out); rintro e w33 ⟨v119, rfl, ho0, hb⟩; have HO120 := Aside0.mk (Kd.bq_ ho0 (ae_ (bz HB.out))); replace HB := Aside0.mk (ad_ (bz HB.out) hb); (try clear hb); (try clear ho0)))
          repeat (go_quiet (first | (go_at_call 48; (with_reducible refine (aG_.calls kj12 _ l0 _ _ ((aA_ ((ar_ l0 0).f3) x3_2).f1) t117 false _ ?side1 ?side2 ?side3 A25.out).mono ?_); (case side1 => exact cz (Kd.aF_ HR0.out HB.out)); (case side2 => exact cz (Kd.aF_ HR116_1.out HB.out)); (case side3 => exact HC116_1.out); rintro e w33 ⟨v119, rfl, ho0, hb⟩; have HO120 := Aside0.mk (Kd.bq_ ho0 (ae_ (bz HB.out))); replace HB := Aside0.mk (ad_ (bz HB.out) hb); (try clear hb); (try clear ho0))); try go_wp2_with (first | (go_at_call 48; (with_reducible refine (aG_.calls kj12 _ l0 _ _ ((aA_ ((ar_ l0 0).f3) x3_2).f1) t117 false _ ?side1 ?side2 ?side3 A25.out).mono ?_); (case side1 => exact cz (Kd.aF_ HR0.out HB.out)); (case side2 => exact cz (Kd.aF_ HR116_1.out HB.out)); (case side3 => exact HC116_1.out); rintro e w33 ⟨v119, rfl, ho0, hb⟩; have HO120 := Aside0.mk (Kd.bq_ ho0 (ae_ (bz HB.out))); replace HB := Aside0.mk (ad_ (bz HB.out) hb); (try clear hb); (try clear ho0))))
          go_ret
          exact ⟨by first | rfl | (simp [*, ah_, ai_] <;> rfl), bz HB.out⟩
         subst c26
         have H1 : ((aq_.f kj12 t117).bind fun t121 => (if t121 = true then (ay_.l0 kj12 l0 (wrap64 (x3_2 + 1))) else (some false))) = some r := by rw [if_pos rfl] at H; exact H
         clear H
         have H := H1
         clear H1
         replace H := Option.bind_eq_some_iff.mp H
         obtain ⟨t121, A270, H⟩ := H
         (try dsimp only at H)
         have A27 := Aside0.mk A270
         clear A270
         have HC28 := Aside0.mk H
         clear H
         have p115 : 0 ≤ (0 : Int) := (by omega)
         have q115 : 0 < (l0.length : Int) := of_decide_eq_true (by assumption)
         obtain ⟨ad115, A115_2, c115_2, A115_3, c115_3, e115, hx115_0, hx115_1, hx115_2, hx115_3, hl115_2, hi115_2, hl115_3, hi115_3⟩ := cc_ HR0.out 0 p115 q115
         obtain rfl : ad107 = ad115 := (by injection e115)
         have qi115 : (0 < l0.length) = True := eq_true (by omega)
         (try simp only [Int.toNat_zero, Nat.zero_mul, Addr.add_zero'] at hx115_0 hx115_1)
         (try simp only [Int.toNat_zero, Nat.zero_mul, Addr.add_zero'] at hx115_2 hx115_3)
         replace hx115_0 := bu_ HB.out hx115_0
         replace hx115_1 := bu_ HB.out hx115_1
         replace hx115_2 := bu_ HB.out hx115_2
         replace hx115_3 := bu_ HB.out hx115_3
         have HR115_2 := Aside0.mk hi115_2
         have HC115_2 := Aside0.mk hl115_2
         clear hi115_2 hl115_2
         have HR115_3 := Aside0.mk hi115_3
         have HC115_3 := Aside0.mk hl115_3
         clear hi115_3 hl115_3
         replace p115 := eq_true p115
         replace q115 := eq_true q115
         (try clear hx101_2)
         (try clear hx101_3)
         (try clear hx103_2)
         (try clear hx103_3)
         (try clear hx106_2)
         (try clear hx106_3)
         (try clear hx101_2)
         (try clear hx101_3)
         (try clear hx103_2)
         (try clear hx103_3)
         (try clear hx101_2)
         (try clear hx101_3)
         (try clear hx103_2)
         (try clear hx103_3)
         (try clear hx101_2)
         (try clear hx101_3)
         (try clear hx107_2)
         (try clear hx107_3)
         (try clear hx108_2)
         (try clear hx108_3)
         (try clear hx111_2)
         (try clear hx111_3)
         (try clear hx113_2)
         (try clear hx113_3)
         (try clear hx108_2)
         (try clear hx108_3)
         (try clear hx108_2)
         (try clear hx108_3)
         have p116 : 0 ≤ (x3_2 : Int) := of_decide_eq_true (by assumption)
         have q116 : x3_2 < (((ar_ l0 0).f3).length : Int) := of_decide_eq_true (by assumption)
         obtain ⟨ad116, A116_1, c116_1, e116, hx116_0, hx116_1, hl116_1, hi116_1⟩ := at_T85 HR115_3.out x3_2 p116 q116
         cases e116
         replace hx116_0 := bu_ HB.out hx116_0
         replace hx116_1 := bu_ HB.out hx116_1
         have HR116_1 := Aside0.mk hi116_1
         have HC116_1 := Aside0.mk hl116_1
         clear hi116_1 hl116_1
         replace p116 := eq_true p116
         replace q116 := eq_true q116
         go_upto_if 95 with (first | (go_at_call 48; (with_reducible refine (aG_.calls kj12 _ l0 _ _ ((aA_ ((ar_ l0 0).f3) x3_2).f1) t117 true _ ?side1 ?side2 ?side3 A25.out).mono ?_); (case side1 => exact cz (Kd.aF_ HR0.out HB.out)); (case side2 => exact cz (Kd.aF_ HR116_1.out HB.out)); (case side3 => exact HC116_1.out); rintro e w29 ⟨v119, rfl, ho0, hb⟩; have HO120 := Aside0.mk (Kd.bq_ ho0 (ae_ (bz HB.out))); replace HB := Aside0.mk (ad_ (bz HB.out) hb); (try clear hb); (try clear ho0); obtain ⟨Ao30, co30, eo30⟩ := Kd.bR_ HO120.out; subst eo30) | (go_at_call 63; (with_reducible refine (aq_.calls kj12 _ _ t117 t121 _ ?side1 ?side2 A27.out).mono ?_); (case side1 => exact cz (Kd.aV_ HO120.out).2.2); (case side2 => exact (Kd.aV_ HO120.out).2.1); rintro e w31 ⟨rfl, hb⟩; replace HO120 := Aside0.mk (Kd.bM_ (rz HO120.out) hb); replace HB := Aside0.mk (ad_ (bz HB.out) hb); (try clear hb)))
         repeat (go_quiet (first | (go_at_call 48; (with_reducible refine (aG_.calls kj12 _ l0 _ _ ((aA_ ((ar_ l0 0).f3) x3_2).f1) t117 true _ ?side1 ?side2 ?side3 A25.out).mono ?_); (case side1 => exact cz (Kd.aF_ HR0.out HB.out)); (case side2 => exact cz (Kd.aF_ HR116_1.out HB.out)); (case side3 => exact HC116_1.out); rintro e w29 ⟨v119, rfl, ho0, hb⟩; have HO120 := Aside0.mk (Kd.bq_ ho0 (ae_ (bz HB.out))); replace HB := Aside0.mk (ad_ (bz HB.out) hb); (try clear hb); (try clear ho0); obtain ⟨Ao30, co30, eo30⟩ := Kd.bR_ HO120.out; subst eo30) | (go_at_call 63; (with_reducible refine (aq_.calls kj12 _ _ t117 t121 _ ?side1 ?side2 A27.out).mono ?_); (case side1 => exact cz (Kd.aV_ HO120.out).2.2); (case side2 => exact (Kd.aV_ HO120.out).2.1); rintro e w31 ⟨rfl, hb⟩; replace HO120 := Aside0.mk (Kd.bM_ (rz HO120.out) hb); replace HB := Aside0.mk (ad_ (bz HB.out) hb); (try clear hb))); go_upto_if 95 with (first | (go_at_call 48; (with_reducible refine (aG_.calls kj12 _ l0 _ _ ((aA_ ((ar_ l0 0).f3) x3_2).f1) t117 true _ ?side1 ?side2 ?side3 A25.out).mono ?_); (case side1 => exact cz (Kd.aF_ HR0.out HB.out)); (case side2 => exact cz (Kd.aF_ HR116_1.out HB.out)); (case side3 => exact HC116_1.out); rintro e w29 ⟨v119, rfl, ho0, hb⟩; have HO120 := Aside0.mk (Kd.bq_ ho0 (ae_ (bz HB.out))); replace HB := Aside0.mk (ad_ (bz HB.out) hb); (try clear hb); (try clear ho0); obtain ⟨Ao30, co30, eo30⟩ := Kd.bR_ HO120.out; subst eo30) | (go_at_call 63; (with_reducible refine (aq_.calls kj12 _ _ t117 t121 _ ?side1 ?side2 A27.out).mono ?_); (case side1 => exact cz (Kd.aV_ HO120.out).2.2); (case side2 => exact (Kd.aV_ HO120.out).2.1); rintro e w31 ⟨rfl, hb⟩; replace HO120 := Aside0.mk (Kd.bM_ (rz HO120.out) hb); replace HB := Aside0.mk (ad_ (bz HB.out) hb); (try clear hb))))
         (try simp only [Act.put, lsa_, ls0_, ls1_])
         have H := HC28.out
         clear HC28
         by_cases c32 : t121 = true
         rotate_left
         ·replace c32 := Bool.eq_false_iff.mpr c32
          subst c32
          have H1 : (some false) = some r := by rw [if_neg (show ¬ (false = true) by decide)] at H; exact H
          clear H
          have H := H1
          clear H1
          obtain rfl := Option.some.inj H
          go_wp2
          repeat (go_quiet (fail); try go_wp2)
          go_ret
          exact ⟨by first | rfl | (simp [*, ah_, ai_] <;> rfl), bz HB.out⟩
         subst c32
         have H1 : (ay_.l0 kj12 l0 (wrap64 (x3_2 + 1))) = some r := by rw [if_pos rfl] at H; exact H
         clear H
         have H := H1
         clear H1
         have H' := Aside0.mk H
         clear H
         go_wp2
         repeat (go_quiet (fail); try go_wp2)
         go_roundg kj12
         case measure => have := HJ1.out; have := HK2.out; have := HJ12.out; omega
         case rel => exact ⟨(wrap64 (x3_2 + 1)), (by first | rfl | (simp; done) | (simp [*]; done)), H', ⟨by have := HJ1.out; have := HK2.out; have := HJ12.out; omega⟩, ⟨bz HB.out⟩⟩
        subst c21
        have H1 : (some false) = some r := by rw [if_pos rfl] at H; exact H
        clear H
        have H := H1
        clear H1
        obtain rfl := Option.some.inj H
        go_wp2
        repeat (go_quiet (fail); try go_wp2)
        go_ret
        exact ⟨by first | rfl | (simp [*, ah_, ai_] <;> rfl), bz HB.out⟩
   subst c10
   have H1 : (some false) = some r := by rw [if_pos rfl] at H; exact H
   clear H
   have H := H1
   clear H1
   obtain rfl := Option.some.inj H
   go_wp2
   repeat (go_quiet (fail); try go_wp2)
   go_ret
   exact ⟨by first | rfl | (simp [*, ah_, ai_] <;> rfl), bz HB.out⟩
def cV_.f  : Option (List ByteArray) := some (([(⟨#[97, 115, 104]⟩ : ByteArray), (⟨#[98, 101, 101, 99, 104]⟩ : ByteArray), (⟨#[98, 105, 114, 99, 104]⟩ : ByteArray), (⟨#[99, 104, 101, 114, 114, 121]⟩ : ByteArray), (⟨#[101, 98, 111, 110, 121]⟩ : ByteArray), (⟨#[104, 111, 108, 108, 121]⟩ : ByteArray), (⟨#[109, 97, 112, 108, 101]⟩ : ByteArray), (⟨#[111, 97, 107]⟩ : ByteArray), (⟨#[114, 111, 115, 101, 119, 111, 111, 100]⟩ : ByteArray), (⟨#[119, 97, 108, 110, 117, 116]⟩ : ByteArray)] : List ByteArray))
set_option maxHeartbeats 8000000 in
set_option maxRecDepth 100000 in
theorem cV_.calls  (r : List ByteArray) (w : World) (h : cV_.f  = some r) :
  Calls Try.prog 49 #[] w fun e w' => ∃ v0_ : Value, e = .returned (v0_) ∧ Kd.R Kd.string 9 w' w.heap.size (fun _ => True) v0_ r ∧ Below w.heap.size w w' := by
 have HB := Aside0.mk (Below.refl w.heap.size w)
 have H : (some (([(⟨#[97, 115, 104]⟩ : ByteArray), (⟨#[98, 101, 101, 99, 104]⟩ : ByteArray), (⟨#[98, 105, 114, 99, 104]⟩ : ByteArray), (⟨#[99, 104, 101, 114, 114, 121]⟩ : ByteArray), (⟨#[101, 98, 111, 110, 121]⟩ : ByteArray), (⟨#[104, 111, 108, 108, 121]⟩ : ByteArray), (⟨#[109, 97, 112, 108, 101]⟩ : ByteArray), (⟨#[111, 97, 107]⟩ : ByteArray), (⟨#[114, 111, 115, 101, 119, 111, 111, 100]⟩ : ByteArray), (⟨#[119, 97, 108, 110, 117, 116]⟩ : ByteArray)] : List ByteArray))) = some r := h
 clear h
 obtain ⟨y101, hy101⟩ : ∃ y_ : List ByteArray, y_ = (([(⟨#[97, 115, 104]⟩ : ByteArray), (⟨#[98, 101, 101, 99, 104]⟩ : ByteArray), (⟨#[98, 105, 114, 99, 104]⟩ : ByteArray), (⟨#[99, 104, 101, 114, 114, 121]⟩ : ByteArray), (⟨#[101, 98, 111, 110, 121]⟩ : ByteArray), (⟨#[104, 111, 108, 108, 121]⟩ : ByteArray), (⟨#[109, 97, 112, 108, 101]⟩ : ByteArray), (⟨#[111, 97, 107]⟩ : ByteArray), (⟨#[114, 111, 115, 101, 119, 111, 111, 100]⟩ : ByteArray), (⟨#[119, 97, 108, 110, 117, 116]⟩ : ByteArray)] : List ByteArray)) := ⟨_, rfl⟩
 replace H : (some y101) = some r := by first | (rw [hy101]; with_reducible exact H) | (have H2_ := (Option.bind_some _ _).symm.trans H; rw [hy101]; with_reducible exact H2_) | (have H2_ := (Option.bind_some _ _).symm.trans H; with_reducible exact H2_) | with_reducible exact H | (rw [hy101]; exact H) | exact H
 have Ny101 := Aside0.mk hy101
 clear hy101
 obtain rfl := Option.some.inj H
 go_enter Try.func49, Try.ntmps49
 go_wp2_with (first | ((with_reducible refine al_ (N := 1) rfl ?_); refine Kd.R_lit Kd.string _ 9 ?hg (N := 1) ?hd (xs := ([(⟨#[97, 115, 104]⟩ : ByteArray), (⟨#[98, 101, 101, 99, 104]⟩ : ByteArray), (⟨#[98, 105, 114, 99, 104]⟩ : ByteArray), (⟨#[99, 104, 101, 114, 114, 121]⟩ : ByteArray), (⟨#[101, 98, 111, 110, 121]⟩ : ByteArray), (⟨#[104, 111, 108, 108, 121]⟩ : ByteArray), (⟨#[109, 97, 112, 108, 101]⟩ : ByteArray), (⟨#[111, 97, 107]⟩ : ByteArray), (⟨#[114, 111, 115, 101, 119, 111, 111, 100]⟩ : ByteArray), (⟨#[119, 97, 108, 110, 117, 116]⟩ : ByteArray)] : List ByteArray)) (inner := [.string (⟨#[97, 115, 104]⟩ : ByteArray), .string (⟨#[98, 101, 101, 99, 104]⟩ : ByteArray), .string (⟨#[98, 105, 114, 99, 104]⟩ : ByteArray), .string (⟨#[99, 104, 101, 114, 114, 121]⟩ : ByteArray), .string (⟨#[101, 98, 111, 110, 121]⟩ : ByteArray), .string (⟨#[104, 111, 108, 108, 121]⟩ : ByteArray), .string (⟨#[109, 97, 112, 108, 101]⟩ : ByteArray), .string (⟨#[111, 97, 107]⟩ : ByteArray), .string (⟨#[114, 111, 115, 101, 119, 111, 111, 100]⟩ : ByteArray), .string (⟨#[119, 97, 108, 110, 117, 116]⟩ : ByteArray)]) (ok := fun _ => True) (okp := fun _ => True) ?hr ?hp (fun _ hk => hk) trivial (Below.refl _ _) (Nat.le_refl _) (by simp) ?_; (case hd => rfl); (case hg => rfl); (case hr => (go_simp; try rfl)); (case hp => exact (Reps.one (show Kd.M Kd.string _ _ _ (⟨#[97, 115, 104]⟩ : ByteArray) [.string (⟨#[97, 115, 104]⟩ : ByteArray)] from rfl) (Reps.one (show Kd.M Kd.string _ _ _ (⟨#[98, 101, 101, 99, 104]⟩ : ByteArray) [.string (⟨#[98, 101, 101, 99, 104]⟩ : ByteArray)] from rfl) (Reps.one (show Kd.M Kd.string _ _ _ (⟨#[98, 105, 114, 99, 104]⟩ : ByteArray) [.string (⟨#[98, 105, 114, 99, 104]⟩ : ByteArray)] from rfl) (Reps.one (show Kd.M Kd.string _ _ _ (⟨#[99, 104, 101, 114, 114, 121]⟩ : ByteArray) [.string (⟨#[99, 104, 101, 114, 114, 121]⟩ : ByteArray)] from rfl) (Reps.one (show Kd.M Kd.string _ _ _ (⟨#[101, 98, 111, 110, 121]⟩ : ByteArray) [.string (⟨#[101, 98, 111, 110, 121]⟩ : ByteArray)] from rfl) (Reps.one (show Kd.M Kd.string _ _ _ (⟨#[104, 111, 108, 108, 121]⟩ : ByteArray) [.string (⟨#[104, 111, 108, 108, 121]⟩ : ByteArray)] from rfl) (Reps.one (show Kd.M Kd.string _ _ _ (⟨#[109, 97, 112, 108, 101]⟩ : ByteArray) [.string (⟨#[109, 97, 112, 108, 101]⟩ : ByteArray)] from rfl) (Reps.one (show Kd.M Kd.string _ _ _ (⟨#[111, 97, 107]⟩ : ByteArray) [.string (⟨#[111, 97, 107]⟩ : ByteArray)] from rfl) (Reps.one (show Kd.M Kd.string _ _ _ (⟨#[114, 111, 115, 101, 119, 111, 111, 100]⟩ : ByteArray) [.string (⟨#[114, 111, 115, 101, 119, 111, 111, 100]⟩ : ByteArray)] from rfl) (Reps.one (show Kd.M Kd.string _ _ _ (⟨#[119, 97, 108, 110, 117, 116]⟩ : ByteArray) [.string (⟨#[119, 97, 108, 110, 117, 116]⟩ : ByteArray)] from rfl) (Reps.none _ _)))))))))))); intro v102 w1 ho2 hb hg_ hnew_; clear hg_ hnew_; (first | rw [← Ny101.out] at ho2 | (simp only [Int.reduceToNat] at ho2; rw [← Ny101.out] at ho2)); have HO103 := Aside0.mk (Kd.bq_ ho2 (ae_ (bz HB.out))); replace HB := Aside0.mk (ad_ (bz HB.out) hb); clear hb ho2))
 go_ret
 exact ⟨_, by first | rfl | (simp [*, ah_, ai_] <;> rfl), rz HO103.out, bz HB.out⟩
def bB_.l0 : Nat → ByteArray → List ByteArray → Int → Option (Int)
 | 0, _, _, _ => none
 | k + 1, x0, x3, x4 => if x4 < (x3.length : Int) then (if 0 ≤ x4 then (if (rdOf ByteArray.empty x3 x4).toList = x0.toList then (some x4) else (bB_.l0 k x0 x3 (wrap64 (x4 + 1)))) else (none)) else (some (-1))
def bB_.f (k : Nat) (a0 : ByteArray) : Option (Int) := (cV_.f).bind fun t101 => (bB_.l0 k a0 t101 0)
set_option maxHeartbeats 8000000 in
set_option maxRecDepth 100000 in
theorem bB_.calls (k : Nat) (a0 : ByteArray) (r : Int) (w : World) (h : bB_.f k a0 = some r) :
  Calls Try.prog 32 #[.string a0] w fun e w' => e = .returned (.int .i64 r) ∧ Below w.heap.size w w' := by
 have HB := Aside0.mk (Below.refl w.heap.size w)
 have H : ((cV_.f).bind fun t101 => (bB_.l0 k a0 t101 0)) = some r := h
 clear h
 replace H := Option.bind_eq_some_iff.mp H
 obtain ⟨t101, A20, H⟩ := H
 (try dsimp only at H)
 have A2 := Aside0.mk A20
 clear A20
 have H' := Aside0.mk H
 clear H
 go_enter Try.func32, Try.ntmps32
 go_wp2_with (first | ((with_reducible refine an_ (f := 49) rfl ?_); refine aU_ (some 5) rfl rfl Try.func49 (by kernel_rfl) rfl #[] rfl (by first | rfl | (simp only [lma_, lmc_, lmn_]; first | done | rfl)) ?_; (with_reducible refine (cV_.calls  t101 _ A2.out).mono ?_); rintro e w3 ⟨v102, rfl, ho0, hb⟩; refine ⟨_, rfl, ?_⟩; have HO103 := Aside0.mk (Kd.bq_ ho0 (ae_ (bz HB.out))); replace HB := Aside0.mk (ad_ (bz HB.out) hb); (try clear hb); (try clear ho0)))
 (try simp only [Act.put, lsa_, ls0_, ls1_])
 go_loopg [4] k (fun kq v4 w' => ∃ (x4_1 : Int), v4 = .int .i64 x4_1 ∧ Aside0 (bB_.l0 kq a0 t101 x4_1 = some r) ∧ Aside0 (kq ≤ k) ∧ Aside0 (Kd.R Kd.string 9 w' w.heap.size (fun _ => True) v102 t101) ∧ Aside0 (Below w.heap.size w w'))
 case atStart => exact ⟨(0), (by first | rfl | (simp; done) | (simp [*]; done)), H', ⟨Nat.le_refl _⟩, ⟨rz HO103.out⟩, ⟨bz HB.out⟩⟩
 case round =>
  clear H'
  obtain ⟨x4_1, rfl, HA, HK1, HO_3, HB⟩ := hrel
  cases gk with
  | zero => exact absurd HA.out (by simp [bB_.l0])
  | succ k1 =>
   have H := HA.out
   clear HA
   simp only [bB_.l0] at H
   by_cases c4 : x4_1 < (t101.length : Int)
   rotate_left
   ·rw [if_neg c4] at H
    have c4b0 : decide (x4_1 < (t101.length : Int)) = false := decide_eq_false c4
    clear c4
    obtain rfl := Option.some.inj H
    obtain ⟨Ao9, co9, eo9⟩ := Kd.bR_ HO_3.out
    subst eo9
    go_wp2
    go_ret
    exact ⟨by first | rfl | (simp [*, ah_, ai_] <;> rfl), bz HB.out⟩
   rw [if_pos c4] at H
   have c4b0 : decide (x4_1 < (t101.length : Int)) = true := decide_eq_true c4
   clear c4
   by_cases c5 : 0 ≤ x4_1
   rotate_left
   ·rw [if_neg c5] at H
    exact absurd H (by simp)
   rw [if_pos c5] at H
   have c5b0 : decide (0 ≤ x4_1) = true := decide_eq_true c5
   clear c5
   by_cases c6 : (rdOf ByteArray.empty t101 x4_1).toList = a0.toList
   rotate_left
   ·rw [if_neg c6] at H
    have c6b0 : ((rdOf ByteArray.empty t101 x4_1).toList == a0.toList) = false := beq_eq_false_iff_ne.mpr c6
    have c6b1 : ((rdOf ByteArray.empty t101 x4_1).toList != a0.toList) = true := bne_iff_ne.mpr c6
    have H' := Aside0.mk H
    clear H
    obtain ⟨Ao8, co8, eo8⟩ := Kd.bR_ HO_3.out
    subst eo8
    have p104 : 0 ≤ (x4_1 : Int) := of_decide_eq_true (by assumption)
    have q104 : x4_1 < (t101.length : Int) := of_decide_eq_true (by assumption)
    obtain ⟨ad104, e104, hx104_0⟩ := Kd.at_string (Kd.aV_ HO_3.out).2.2 x4_1 p104 q104
    cases e104
    replace p104 := eq_true p104
    replace q104 := eq_true q104
    go_wp2
    go_roundg k1
    case measure => have := HK1.out; omega
    case rel => exact ⟨(wrap64 (x4_1 + 1)), (by first | rfl | (simp; done) | (simp [*]; done)), H', ⟨by have := HK1.out; omega⟩, ⟨rz HO_3.out⟩, ⟨bz HB.out⟩⟩
   rw [if_pos c6] at H
   have c6b0 : ((rdOf ByteArray.empty t101 x4_1).toList == a0.toList) = true := beq_iff_eq.mpr c6
   have c6b1 : ((rdOf ByteArray.empty t101 x4_1).toList != a0.toList) = false := bne_eq_false_iff_eq.mpr c6
   clear c6
   obtain rfl := Option.some.inj H
   obtain ⟨Ao7, co7, eo7⟩ := Kd.bR_ HO_3.out
   subst eo7
   have p104 : 0 ≤ (x4_1 : Int) := of_decide_eq_true (by assumption)
   have q104 : x4_1 < (t101.length : Int) := of_decide_eq_true (by assumption)
   obtain ⟨ad104, e104, hx104_0⟩ := Kd.at_string (Kd.aV_ HO_3.out).2.2 x4_1 p104 q104
   cases e104
   replace p104 := eq_true p104
   replace q104 := eq_true q104
   go_wp2
   go_ret
   exact ⟨by first | rfl | (simp [*, ah_, ai_] <;> rfl), bz HB.out⟩
def cE_.f  : Option ((List (List Int))) := some (([(([20, 40, 310] : List Int)), (([35, 45, 410] : List Int)), (([15, 33, 280] : List Int)), (([50, 36, 240] : List Int)), (([95, 85, 270] : List Int)), (([5, 35, 370] : List Int)), (([10, 42, 290] : List Int)), (([40, 40, 330] : List Int)), (([80, 60, 220] : List Int)), (([70, 38, 260] : List Int))] : List (List Int)))
set_option maxHeartbeats 8000000 in
set_option maxRecDepth 100000 in
theorem cE_.calls  (r : List (List Int)) (w : World) (h : cE_.f  = some r) :
  Calls Try.prog 78 #[] w fun e w' => ∃ v0_ : Value, e = .returned (v0_) ∧ Kd.N (Kd.slice 2 (Kd.int .i64)) 71 w' w.heap.size (fun k_ => (w.heap.size ≤ k_)) v0_ r ∧ Below w.heap.size w w' := by
 have HB := Aside0.mk (Below.refl w.heap.size w)
 have H : (some (([(([20, 40, 310] : List Int)), (([35, 45, 410] : List Int)), (([15, 33, 280] : List Int)), (([50, 36, 240] : List Int)), (([95, 85, 270] : List Int)), (([5, 35, 370] : List Int)), (([10, 42, 290] : List Int)), (([40, 40, 330] : List Int)), (([80, 60, 220] : List Int)), (([70, 38, 260] : List Int))] : List (List Int)))) = some r := h
 clear h
 obtain ⟨y101, hy101⟩ : ∃ y_ : List Int, y_ = (([20, 40, 310] : List Int)) := ⟨_, rfl⟩
 replace H : (some (([y101, (([35, 45, 410] : List Int)), (([15, 33, 280] : List Int)), (([50, 36, 240] : List Int)), (([95, 85, 270] : List Int)), (([5, 35, 370] : List Int)), (([10, 42, 290] : List Int)), (([40, 40, 330] : List Int)), (([80, 60, 220] : List Int)), (([70, 38, 260] : List Int))] : List (List Int)))) = some r := by first | (rw [hy101]; with_reducible exact H) | (have H2_ := (Option.bind_some _ _).symm.trans H; rw [hy101]; with_reducible exact H2_) | (have H2_ := (Option.bind_some _ _).symm.trans H; with_reducible exact H2_) | with_reducible exact H | (rw [hy101]; exact H) | exact H
 have Ny101 := Aside0.mk hy101
 clear hy101
 obtain ⟨y104, hy104⟩ : ∃ y_ : List Int, y_ = (([35, 45, 410] : List Int)) := ⟨_, rfl⟩
 replace H : (some (([y101, y104, (([15, 33, 280] : List Int)), (([50, 36, 240] : List Int)), (([95, 85, 270] : List Int)), (([5, 35, 370] : List Int)), (([10, 42, 290] : List Int)), (([40, 40, 330] : List Int)), (([80, 60, 220] : List Int)), (([70, 38, 260] : List Int))] : List (List Int)))) = some r := by first | (rw [hy104]; with_reducible exact H) | (have H2_ := (Option.bind_some _ _).symm.trans H; rw [hy104]; with_reducible exact H2_) | (have H2_ := (Option.bind_some _ _).symm.trans H; with_reducible exact H2_) | with_reducible exact H | (rw [hy104]; exact H) | exact H
 have Ny104 := Aside0.mk hy104
 clear hy104
 obtain ⟨y107, hy107⟩ : ∃ y_ : List Int, y_ = (([15, 33, 280] : List Int)) := ⟨_, rfl⟩
 replace H : (some (([y101, y104, y107, (([50, 36, 240] : List Int)), (([95, 85, 270] : List Int)), (([5, 35, 370] : List Int)), (([10, 42, 290] : List Int)), (([40, 40, 330] : List Int)), (([80, 60, 220] : List Int)), (([70, 38, 260] : List Int))] : List (List Int)))) = some r := by first | (rw [hy107]; with_reducible exact H) | (have H2_ := (Option.bind_some _ _).symm.trans H; rw [hy107]; with_reducible exact H2_) | (have H2_ := (Option.bind_some _ _).symm.trans H; with_reducible exact H2_) | with_reducible exact H | (rw [hy107]; exact H) | exact H
 have Ny107 := Aside0.mk hy107
 clear hy107
 obtain ⟨y110, hy110⟩ : ∃ y_ : List Int, y_ = (([50, 36, 240] : List Int)) := ⟨_, rfl⟩
 replace H : (some (([y101, y104, y107, y110, (([95, 85, 270] : List Int)), (([5, 35, 370] : List Int)), (([10, 42, 290] : List Int)), (([40, 40, 330] : List Int)), (([80, 60, 220] : List Int)), (([70, 38, 260] : List Int))] : List (List Int)))) = some r := by first | (rw [hy110]; with_reducible exact H) | (have H2_ := (Option.bind_some _ _).symm.trans H; rw [hy110]; with_reducible exact H2_) | (have H2_ := (Option.bind_some _ _).symm.trans H; with_reducible exact H2_) | with_reducible exact H | (rw [hy110]; exact H) | exact H
 have Ny110 := Aside0.mk hy110
 clear hy110
 obtain ⟨y113, hy113⟩ : ∃ y_ : List Int, y_ = (([95, 85, 270] : List Int)) := ⟨_, rfl⟩
 replace H : (some (([y101, y104, y107, y110, y113, (([5, 35, 370] : List Int)), (([10, 42, 290] : List Int)), (([40, 40, 330] : List Int)), (([80, 60, 220] : List Int)), (([70, 38, 260] : List Int))] : List (List Int)))) = some r := by first | (rw [hy113]; with_reducible exact H) | (have H2_ := (Option.bind_some _ _).symm.trans H; rw [hy113]; with_reducible exact H2_) | (have H2_ := (Option.bind_some _ _).symm.trans H; with_reducible exact H2_) | with_reducible exact H | (rw [hy113]; exact H) | exact H
 have Ny113 := Aside0.mk hy113
 clear hy113
 obtain ⟨y116, hy116⟩ : ∃ y_ : List Int, y_ = (([5, 35, 370] : List Int)) := ⟨_, rfl⟩
 replace H : (some (([y101, y104, y107, y110, y113, y116, (([10, 42, 290] : List Int)), (([40, 40, 330] : List Int)), (([80, 60, 220] : List Int)), (([70, 38, 260] : List Int))] : List (List Int)))) = some r := by first | (rw [hy116]; with_reducible exact H) | (have H2_ := (Option.bind_some _ _).symm.trans H; rw [hy116]; with_reducible exact H2_) | (have H2_ := (Option.bind_some _ _).symm.trans H; with_reducible exact H2_) | with_reducible exact H | (rw [hy116]; exact H) | exact H
 have Ny116 := Aside0.mk hy116
 clear hy116
 obtain ⟨y119, hy119⟩ : ∃ y_ : List Int, y_ = (([10, 42, 290] : List Int)) := ⟨_, rfl⟩
 replace H : (some (([y101, y104, y107, y110, y113, y116, y119, (([40, 40, 330] : List Int)), (([80, 60, 220] : List Int)), (([70, 38, 260] : List Int))] : List (List Int)))) = some r := by first | (rw [hy119]; with_reducible exact H) | (have H2_ := (Option.bind_some _ _).symm.trans H; rw [hy119]; with_reducible exact H2_) | (have H2_ := (Option.bind_some _ _).symm.trans H; with_reducible exact H2_) | with_reducible exact H | (rw [hy119]; exact H) | exact H
 have Ny119 := Aside0.mk hy119
 clear hy119
 obtain ⟨y122, hy122⟩ : ∃ y_ : List Int, y_ = (([40, 40, 330] : List Int)) := ⟨_, rfl⟩
 replace H : (some (([y101, y104, y107, y110, y113, y116, y119, y122, (([80, 60, 220] : List Int)), (([70, 38, 260] : List Int))] : List (List Int)))) = some r := by first | (rw [hy122]; with_reducible exact H) | (have H2_ := (Option.bind_some _ _).symm.trans H; rw [hy122]; with_reducible exact H2_) | (have H2_ := (Option.bind_some _ _).symm.trans H; with_reducible exact H2_) | with_reducible exact H | (rw [hy122]; exact H) | exact H
 have Ny122 := Aside0.mk hy122
 clear hy122
 obtain ⟨y125, hy125⟩ : ∃ y_ : List Int, y_ = (([80, 60, 220] : List Int)) := ⟨_, rfl⟩
 replace H : (some (([y101, y104, y107, y110, y113, y116, y119, y122, y125, (([70, 38, 260] : List Int))] : List (List Int)))) = some r := by first | (rw [hy125]; with_reducible exact H) | (have H2_ := (Option.bind_some _ _).symm.trans H; rw [hy125]; with_reducible exact H2_) | (have H2_ := (Option.bind_some _ _).symm.trans H; with_reducible exact H2_) | with_reducible exact H | (rw [hy125]; exact H) | exact H
 have Ny125 := Aside0.mk hy125
 clear hy125
 obtain ⟨y128, hy128⟩ : ∃ y_ : List Int, y_ = (([70, 38, 260] : List Int)) := ⟨_, rfl⟩
 replace H : (some (([y101, y104, y107, y110, y113, y116, y119, y122, y125, y128] : List (List Int)))) = some r := by first | (rw [hy128]; with_reducible exact H) | (have H2_ := (Option.bind_some _ _).symm.trans H; rw [hy128]; with_reducible exact H2_) | (have H2_ := (Option.bind_some _ _).symm.trans H; with_reducible exact H2_) | with_reducible exact H | (rw [hy128]; exact H) | exact H
 have Ny128 := Aside0.mk hy128
 clear hy128
 obtain ⟨y131, hy131⟩ : ∃ y_ : List (List Int), y_ = (([y101, y104, y107, y110, y113, y116, y119, y122, y125, y128] : List (List Int))) := ⟨_, rfl⟩
 replace H : (some y131) = some r := by first | (rw [hy131]; with_reducible exact H) | (have H2_ := (Option.bind_some _ _).symm.trans H; rw [hy131]; with_reducible exact H2_) | (have H2_ := (Option.bind_some _ _).symm.trans H; with_reducible exact H2_) | with_reducible exact H | (rw [hy131]; exact H) | exact H
 have Ny131 := Aside0.mk hy131
 clear hy131
 obtain rfl := Option.some.inj H
 go_enter Try.func78, Try.ntmps78
 go_wp2_with (first | ((with_reducible refine al_ (N := 1) rfl ?_); refine Kd.R_lit (Kd.int .i64) _ 2 ?hg (N := 1) ?hd (xs := ([20, 40, 310] : List Int)) (inner := [.int .i64 20, .int .i64 40, .int .i64 310]) (ok := fun _ => True) (okp := fun _ => True) ?hr ?hp (fun _ hk => hk) trivial (Below.refl _ _) (Nat.le_refl _) (by simp) ?_; (case hd => rfl); (case hg => rfl); (case hr => (go_simp; try rfl)); (case hp => exact (Reps.one (show Kd.M (Kd.int .i64) _ _ _ 20 [.int .i64 20] from rfl) (Reps.one (show Kd.M (Kd.int .i64) _ _ _ 40 [.int .i64 40] from rfl) (Reps.one (show Kd.M (Kd.int .i64) _ _ _ 310 [.int .i64 310] from rfl) (Reps.none _ _))))); intro v102 w1 ho2 hb hg_ hnew_; clear hg_ hnew_; (first | rw [← Ny101.out] at ho2 | (simp only [Int.reduceToNat] at ho2; rw [← Ny101.out] at ho2)); have HO103 := Aside0.mk (Kd.bq_ (Kd.R_newM (M := fun k_ => (w.heap.size ≤ k_)) ho2 (ae_ (bz HB.out)) (fun k_ h_ => h_)) (ae_ (bz HB.out))); replace HB := Aside0.mk (ad_ (bz HB.out) hb); clear hb ho2) | ((with_reducible refine al_ (N := 2) rfl ?_); refine Kd.R_lit (Kd.int .i64) _ 2 ?hg (N := 2) ?hd (xs := ([35, 45, 410] : List Int)) (inner := [.int .i64 35, .int .i64 45, .int .i64 410]) (ok := fun _ => True) (okp := fun _ => True) ?hr ?hp (fun _ hk => hk) trivial (Below.refl _ _) (Nat.le_refl _) (by simp) ?_; (case hd => rfl); (case hg => rfl); (case hr => (go_simp; try rfl)); (case hp => exact (Reps.one (show Kd.M (Kd.int .i64) _ _ _ 35 [.int .i64 35] from rfl) (Reps.one (show Kd.M (Kd.int .i64) _ _ _ 45 [.int .i64 45] from rfl) (Reps.one (show Kd.M (Kd.int .i64) _ _ _ 410 [.int .i64 410] from rfl) (Reps.none _ _))))); intro v105 w3 ho4 hb hg_ hnew_; clear hg_ hnew_; (first | rw [← Ny104.out] at ho4 | (simp only [Int.reduceToNat] at ho4; rw [← Ny104.out] at ho4)); have HO106 := Aside0.mk (Kd.bq_ (Kd.bL_ (Kd.R_newM (M := fun k_ => (w.heap.size ≤ k_)) ho4 (ae_ (bz HB.out)) (fun k_ h_ => h_)) (Kd.R_lt (rz HO103.out))) (ae_ (bz HB.out))); replace HO103 := Aside0.mk (Kd.bc_ (rz HO103.out) (Kd.bG_ ho4) hb); replace HB := Aside0.mk (ad_ (bz HB.out) hb); clear hb ho4) | ((with_reducible refine al_ (N := 3) rfl ?_); refine Kd.R_lit (Kd.int .i64) _ 2 ?hg (N := 3) ?hd (xs := ([15, 33, 280] : List Int)) (inner := [.int .i64 15, .int .i64 33, .int .i64 280]) (ok := fun _ => True) (okp := fun _ => True) ?hr ?hp (fun _ hk => hk) trivial (Below.refl _ _) (Nat.le_refl _) (by simp) ?_; (case hd => rfl); (case hg => rfl); (case hr => (go_simp; try rfl)); (case hp => exact (Reps.one (show Kd.M (Kd.int .i64) _ _ _ 15 [.int .i64 15] from rfl) (Reps.one (show Kd.M (Kd.int .i64) _ _ _ 33 [.int .i64 33] from rfl) (Reps.one (show Kd.M (Kd.int .i64) _ _ _ 280 [.int .i64 280] from rfl) (Reps.none _ _))))); intro v108 w5 ho6 hb hg_ hnew_; clear hg_ hnew_; (first | rw [← Ny107.out] at ho6 | (simp only [Int.reduceToNat] at ho6; rw [← Ny107.out] at ho6)); have HO109 := Aside0.mk (Kd.bq_ (Kd.bL_ (Kd.bL_ (Kd.R_newM (M := fun k_ => (w.heap.size ≤ k_)) ho6 (ae_ (bz HB.out)) (fun k_ h_ => h_)) (Kd.R_lt (rz HO103.out))) (Kd.R_lt (rz HO106.out))) (ae_ (bz HB.out))); replace HO103 := Aside0.mk (Kd.bc_ (rz HO103.out) (Kd.bG_ ho6) hb); replace HO106 := Aside0.mk (Kd.bc_ (rz HO106.out) (Kd.bG_ ho6) hb); replace HB := Aside0.mk (ad_ (bz HB.out) hb); clear hb ho6) | ((with_reducible refine al_ (N := 4) rfl ?_); refine Kd.R_lit (Kd.int .i64) _ 2 ?hg (N := 4) ?hd (xs := ([50, 36, 240] : List Int)) (inner := [.int .i64 50, .int .i64 36, .int .i64 240]) (ok := fun _ => True) (okp := fun _ => True) ?hr ?hp (fun _ hk => hk) trivial (Below.refl _ _) (Nat.le_refl _) (by simp) ?_; (case hd => rfl); (case hg => rfl); (case hr => (go_simp; try rfl)); (case hp => exact (Reps.one (show Kd.M (Kd.int .i64) _ _ _ 50 [.int .i64 50] from rfl) (Reps.one (show Kd.M (Kd.int .i64) _ _ _ 36 [.int .i64 36] from rfl) (Reps.one (show Kd.M (Kd.int .i64) _ _ _ 240 [.int .i64 240] from rfl) (Reps.none _ _))))); intro v111 w7 ho8 hb hg_ hnew_; clear hg_ hnew_; (first | rw [← Ny110.out] at ho8 | (simp only [Int.reduceToNat] at ho8; rw [← Ny110.out] at ho8)); have HO112 := Aside0.mk (Kd.bq_ (Kd.bL_ (Kd.bL_ (Kd.bL_ (Kd.R_newM (M := fun k_ => (w.heap.size ≤ k_)) ho8 (ae_ (bz HB.out)) (fun k_ h_ => h_)) (Kd.R_lt (rz HO103.out))) (Kd.R_lt (rz HO106.out))) (Kd.R_lt (rz HO109.out))) (ae_ (bz HB.out))); replace HO103 := Aside0.mk (Kd.bc_ (rz HO103.out) (Kd.bG_ ho8) hb); replace HO106 := Aside0.mk (Kd.bc_ (rz HO106.out) (Kd.bG_ ho8) hb); replace HO109 := Aside0.mk (Kd.bc_ (rz HO109.out) (Kd.bG_ ho8) hb); replace HB := Aside0.mk (ad_ (bz HB.out) hb); clear hb ho8) | ((with_reducible refine al_ (N := 5) rfl ?_); refine Kd.R_lit (Kd.int .i64) _ 2 ?hg (N := 5) ?hd (xs := ([95, 85, 270] : List Int)) (inner := [.int .i64 95, .int .i64 85, .int .i64 270]) (ok := fun _ => True) (okp := fun _ => True) ?hr ?hp (fun _ hk => hk) trivial (Below.refl _ _) (Nat.le_refl _) (by simp) ?_; (case hd => rfl); (case hg => rfl); (case hr => (go_simp; try rfl)); (case hp => exact (Reps.one (show Kd.M (Kd.int .i64) _ _ _ 95 [.int .i64 95] from rfl) (Reps.one (show Kd.M (Kd.int .i64) _ _ _ 85 [.int .i64 85] from rfl) (Reps.one (show Kd.M (Kd.int .i64) _ _ _ 270 [.int .i64 270] from rfl) (Reps.none _ _))))); intro v114 w9 ho10 hb hg_ hnew_; clear hg_ hnew_; (first | rw [← Ny113.out] at ho10 | (simp only [Int.reduceToNat] at ho10; rw [← Ny113.out] at ho10)); have HO115 := Aside0.mk (Kd.bq_ (Kd.bL_ (Kd.bL_ (Kd.bL_ (Kd.bL_ (Kd.R_newM (M := fun k_ => (w.heap.size ≤ k_)) ho10 (ae_ (bz HB.out)) (fun k_ h_ => h_)) (Kd.R_lt (rz HO103.out))) (Kd.R_lt (rz HO106.out))) (Kd.R_lt (rz HO109.out))) (Kd.R_lt (rz HO112.out))) (ae_ (bz HB.out))); replace HO103 := Aside0.mk (Kd.bc_ (rz HO103.out) (Kd.bG_ ho10) hb); replace HO106 := Aside0.mk (Kd.bc_ (rz HO106.out) (Kd.bG_ ho10) hb); replace HO109 := Aside0.mk (Kd.bc_ (rz HO109.out) (Kd.bG_ ho10) hb); replace HO112 := Aside0.mk (Kd.bc_ (rz HO112.out) (Kd.bG_ ho10) hb); replace HB := Aside0.mk (ad_ (bz HB.out) hb); clear hb ho10) | ((with_reducible refine al_ (N := 6) rfl ?_); refine Kd.R_lit (Kd.int .i64) _ 2 ?hg (N := 6) ?hd (xs := ([5, 35, 370] : List Int)) (inner := [.int .i64 5, .int .i64 35, .int .i64 370]) (ok := fun _ => True) (okp := fun _ => True) ?hr ?hp (fun _ hk => hk) trivial (Below.refl _ _) (Nat.le_refl _) (by simp) ?_; (case hd => rfl); (case hg => rfl); (case hr => (go_simp; try rfl)); (case hp => exact (Reps.one (show Kd.M (Kd.int .i64) _ _ _ 5 [.int .i64 5] from rfl) (Reps.one (show Kd.M (Kd.int .i64) _ _ _ 35 [.int .i64 35] from rfl) (Reps.one (show Kd.M (Kd.int .i64) _ _ _ 370 [.int .i64 370] from rfl) (Reps.none _ _))))); intro v117 w11 ho12 hb hg_ hnew_; clear hg_ hnew_; (first | rw [← Ny116.out] at ho12 | (simp only [Int.reduceToNat] at ho12; rw [← Ny116.out] at ho12)); have HO118 := Aside0.mk (Kd.bq_ (Kd.bL_ (Kd.bL_ (Kd.bL_ (Kd.bL_ (Kd.bL_ (Kd.R_newM (M := fun k_ => (w.heap.size ≤ k_)) ho12 (ae_ (bz HB.out)) (fun k_ h_ => h_)) (Kd.R_lt (rz HO103.out))) (Kd.R_lt (rz HO106.out))) (Kd.R_lt (rz HO109.out))) (Kd.R_lt (rz HO112.out))) (Kd.R_lt (rz HO115.out))) (ae_ (bz HB.out))); replace HO103 := Aside0.mk (Kd.bc_ (rz HO103.out) (Kd.bG_ ho12) hb); replace HO106 := Aside0.mk (Kd.bc_ (rz HO106.out) (Kd.bG_ ho12) hb); replace HO109 := Aside0.mk (Kd.bc_ (rz HO109.out) (Kd.bG_ ho12) hb); replace HO112 := Aside0.mk (Kd.bc_ (rz HO112.out) (Kd.bG_ ho12) hb); replace HO115 := Aside0.mk (Kd.bc_ (rz HO115.out) (Kd.bG_ ho12) hb); replace HB := Aside0.mk (ad_ (bz HB.out) hb); clear hb ho12) | ((with_reducible refine al_ (N := 7) rfl ?_); refine Kd.R_lit (Kd.int .i64) _ 2 ?hg (N := 7) ?hd (xs := ([10, 42, 290] : List Int)) (inner := [.int .i64 10, .int .i64 42, .int .i64 290]) (ok := fun _ => True) (okp := fun _ => True) ?hr ?hp (fun _ hk => hk) trivial (Below.refl _ _) (Nat.le_refl _) (by simp) ?_; (case hd => rfl); (case hg => rfl); (case hr => (go_simp; try rfl)); (case hp => exact (Reps.one (show Kd.M (Kd.int .i64) _ _ _ 10 [.int .i64 10] from rfl) (Reps.one (show Kd.M (Kd.int .i64) _ _ _ 42 [.int .i64 42] from rfl) (Reps.one (show Kd.M (Kd.int .i64) _ _ _ 290 [.int .i64 290] from rfl) (Reps.none _ _))))); intro v120 w13 ho14 hb hg_ hnew_; clear hg_ hnew_; (first | rw [← Ny119.out] at ho14 | (simp only [Int.reduceToNat] at ho14; rw [← Ny119.out] at ho14)); have HO121 := Aside0.mk (Kd.bq_ (Kd.bL_ (Kd.bL_ (Kd.bL_ (Kd.bL_ (Kd.bL_ (Kd.bL_ (Kd.R_newM (M := fun k_ => (w.heap.size ≤ k_)) ho14 (ae_ (bz HB.out)) (fun k_ h_ => h_)) (Kd.R_lt (rz HO103.out))) (Kd.R_lt (rz HO106.out))) (Kd.R_lt (rz HO109.out))) (Kd.R_lt (rz HO112.out))) (Kd.R_lt (rz HO115.out))) (Kd.R_lt (rz HO118.out))) (ae_ (bz HB.out))); replace HO103 := Aside0.mk (Kd.bc_ (rz HO103.out) (Kd.bG_ ho14) hb); replace HO106 := Aside0.mk (Kd.bc_ (rz HO106.out) (Kd.bG_ ho14) hb); replace HO109 := Aside0.mk (Kd.bc_ (rz HO109.out) (Kd.bG_ ho14) hb); replace HO112 := Aside0.mk (Kd.bc_ (rz HO112.out) (Kd.bG_ ho14) hb); replace HO115 := Aside0.mk (Kd.bc_ (rz HO115.out) (Kd.bG_ ho14) hb); replace HO118 := Aside0.mk (Kd.bc_ (rz HO118.out) (Kd.bG_ ho14) hb); replace HB := Aside0.mk (ad_ (bz HB.out) hb); clear hb ho14) | ((with_reducible refine al_ (N := 8) rfl ?_); refine Kd.R_lit (Kd.int .i64) _ 2 ?hg (N := 8) ?hd (xs := ([40, 40, 330] : List Int)) (inner := [.int .i64 40, .int .i64 40, .int .i64 330]) (ok := fun _ => True) (okp := fun _ => True) ?hr ?hp (fun _ hk => hk) trivial (Below.refl _ _) (Nat.le_refl _) (by simp) ?_; (case hd => rfl); (case hg => rfl); (case hr => (go_simp; try rfl)); (case hp => exact (Reps.one (show Kd.M (Kd.int .i64) _ _ _ 40 [.int .i64 40] from rfl) (Reps.one (show Kd.M (Kd.int .i64) _ _ _ 40 [.int .i64 40] from rfl) (Reps.one (show Kd.M (Kd.int .i64) _ _ _ 330 [.int .i64 330] from rfl) (Reps.none _ _))))); intro v123 w15 ho16 hb hg_ hnew_; clear hg_ hnew_; (first | rw [← Ny122.out] at ho16 | (simp only [Int.reduceToNat] at ho16; rw [← Ny122.out] at ho16)); have HO124 := Aside0.mk (Kd.bq_ (Kd.bL_ (Kd.bL_ (Kd.bL_ (Kd.bL_ (Kd.bL_ (Kd.bL_ (Kd.bL_ (Kd.R_newM (M := fun k_ => (w.heap.size ≤ k_)) ho16 (ae_ (bz HB.out)) (fun k_ h_ => h_)) (Kd.R_lt (rz HO103.out))) (Kd.R_lt (rz HO106.out))) (Kd.R_lt (rz HO109.out))) (Kd.R_lt (rz HO112.out))) (Kd.R_lt (rz HO115.out))) (Kd.R_lt (rz HO118.out))) (Kd.R_lt (rz HO121.out))) (ae_ (bz HB.out))); replace HO103 := Aside0.mk (Kd.bc_ (rz HO103.out) (Kd.bG_ ho16) hb); replace HO106 := Aside0.mk (Kd.bc_ (rz HO106.out) (Kd.bG_ ho16) hb); replace HO109 := Aside0.mk (Kd.bc_ (rz HO109.out) (Kd.bG_ ho16) hb); replace HO112 := Aside0.mk (Kd.bc_ (rz HO112.out) (Kd.bG_ ho16) hb); replace HO115 := Aside0.mk (Kd.bc_ (rz HO115.out) (Kd.bG_ ho16) hb); replace HO118 := Aside0.mk (Kd.bc_ (rz HO118.out) (Kd.bG_ ho16) hb); replace HO121 := Aside0.mk (Kd.bc_ (rz HO121.out) (Kd.bG_ ho16) hb); replace HB := Aside0.mk (ad_ (bz HB.out) hb); clear hb ho16) | ((with_reducible refine al_ (N := 9) rfl ?_); refine Kd.R_lit (Kd.int .i64) _ 2 ?hg (N := 9) ?hd (xs := ([80, 60, 220] : List Int)) (inner := [.int .i64 80, .int .i64 60, .int .i64 220]) (ok := fun _ => True) (okp := fun _ => True) ?hr ?hp (fun _ hk => hk) trivial (Below.refl _ _) (Nat.le_refl _) (by simp) ?_; (case hd => rfl); (case hg => rfl); (case hr => (go_simp; try rfl)); (case hp => exact (Reps.one (show Kd.M (Kd.int .i64) _ _ _ 80 [.int .i64 80] from rfl) (Reps.one (show Kd.M (Kd.int .i64) _ _ _ 60 [.int .i64 60] from rfl) (Reps.one (show Kd.M (Kd.int .i64) _ _ _ 220 [.int .i64 220] from rfl) (Reps.none _ _))))); intro v126 w17 ho18 hb hg_ hnew_; clear hg_ hnew_; (first | rw [← Ny125.out] at ho18 | (simp only [Int.reduceToNat] at ho18; rw [← Ny125.out] at ho18)); have HO127 := Aside0.mk (Kd.bq_ (Kd.bL_ (Kd.bL_ (Kd.bL_ (Kd.bL_ (Kd.bL_ (Kd.bL_ (Kd.bL_ (Kd.bL_ (Kd.R_newM (M := fun k_ => (w.heap.size ≤ k_)) ho18 (ae_ (bz HB.out)) (fun k_ h_ => h_)) (Kd.R_lt (rz HO103.out))) (Kd.R_lt (rz HO106.out))) (Kd.R_lt (rz HO109.out))) (Kd.R_lt (rz HO112.out))) (Kd.R_lt (rz HO115.out))) (Kd.R_lt (rz HO118.out))) (Kd.R_lt (rz HO121.out))) (Kd.R_lt (rz HO124.out))) (ae_ (bz HB.out))); replace HO103 := Aside0.mk (Kd.bc_ (rz HO103.out) (Kd.bG_ ho18) hb); replace HO106 := Aside0.mk (Kd.bc_ (rz HO106.out) (Kd.bG_ ho18) hb); replace HO109 := Aside0.mk (Kd.bc_ (rz HO109.out) (Kd.bG_ ho18) hb); replace HO112 := Aside0.mk (Kd.bc_ (rz HO112.out) (Kd.bG_ ho18) hb); replace HO115 := Aside0.mk (Kd.bc_ (rz HO115.out) (Kd.bG_ ho18) hb); replace HO118 := Aside0.mk (Kd.bc_ (rz HO118.out) (Kd.bG_ ho18) hb); replace HO121 := Aside0.mk (Kd.bc_ (rz HO121.out) (Kd.bG_ ho18) hb); replace HO124 := Aside0.mk (Kd.bc_ (rz HO124.out) (Kd.bG_ ho18) hb); replace HB := Aside0.mk (ad_ (bz HB.out) hb); clear hb ho18) | ((with_reducible refine al_ (N := 10) rfl ?_); refine Kd.R_lit (Kd.int .i64) _ 2 ?hg (N := 10) ?hd (xs := ([70, 38, 260] : List Int)) (inner := [.int .i64 70, .int .i64 38, .int .i64 260]) (ok := fun _ => True) (okp := fun _ => True) ?hr ?hp (fun _ hk => hk) trivial (Below.refl _ _) (Nat.le_refl _) (by simp) ?_; (case hd => rfl); (case hg => rfl); (case hr => (go_simp; try rfl)); (case hp => exact (Reps.one (show Kd.M (Kd.int .i64) _ _ _ 70 [.int .i64 70] from rfl) (Reps.one (show Kd.M (Kd.int .i64) _ _ _ 38 [.int .i64 38] from rfl) (Reps.one (show Kd.M (Kd.int .i64) _ _ _ 260 [.int .i64 260] from rfl) (Reps.none _ _))))); intro v129 w19 ho20 hb hg_ hnew_; clear hg_ hnew_; (first | rw [← Ny128.out] at ho20 | (simp only [Int.reduceToNat] at ho20; rw [← Ny128.out] at ho20)); have HO130 := Aside0.mk (Kd.bq_ (Kd.bL_ (Kd.bL_ (Kd.bL_ (Kd.bL_ (Kd.bL_ (Kd.bL_ (Kd.bL_ (Kd.bL_ (Kd.bL_ (Kd.R_newM (M := fun k_ => (w.heap.size ≤ k_)) ho20 (ae_ (bz HB.out)) (fun k_ h_ => h_)) (Kd.R_lt (rz HO103.out))) (Kd.R_lt (rz HO106.out))) (Kd.R_lt (rz HO109.out))) (Kd.R_lt (rz HO112.out))) (Kd.R_lt (rz HO115.out))) (Kd.R_lt (rz HO118.out))) (Kd.R_lt (rz HO121.out))) (Kd.R_lt (rz HO124.out))) (Kd.R_lt (rz HO127.out))) (ae_ (bz HB.out))); replace HO103 := Aside0.mk (Kd.bc_ (rz HO103.out) (Kd.bG_ ho20) hb); replace HO106 := Aside0.mk (Kd.bc_ (rz HO106.out) (Kd.bG_ ho20) hb); replace HO109 := Aside0.mk (Kd.bc_ (rz HO109.out) (Kd.bG_ ho20) hb); replace HO112 := Aside0.mk (Kd.bc_ (rz HO112.out) (Kd.bG_ ho20) hb); replace HO115 := Aside0.mk (Kd.bc_ (rz HO115.out) (Kd.bG_ ho20) hb); replace HO118 := Aside0.mk (Kd.bc_ (rz HO118.out) (Kd.bG_ ho20) hb); replace HO121 := Aside0.mk (Kd.bc_ (rz HO121.out) (Kd.bG_ ho20) hb); replace HO124 := Aside0.mk (Kd.bc_ (rz HO124.out) (Kd.bG_ ho20) hb); replace HO127 := Aside0.mk (Kd.bc_ (rz HO127.out) (Kd.bG_ ho20) hb); replace HB := Aside0.mk (ad_ (bz HB.out) hb); clear hb ho20; obtain ⟨Ao21, co21, eo21⟩ := Kd.bR_ HO103.out; subst eo21; obtain ⟨Ao22, co22, eo22⟩ := Kd.bR_ HO106.out; subst eo22; obtain ⟨Ao23, co23, eo23⟩ := Kd.bR_ HO109.out; subst eo23; obtain ⟨Ao24, co24, eo24⟩ := Kd.bR_ HO112.out; subst eo24; obtain ⟨Ao25, co25, eo25⟩ := Kd.bR_ HO115.out; subst eo25; obtain ⟨Ao26, co26, eo26⟩ := Kd.bR_ HO118.out; subst eo26; obtain ⟨Ao27, co27, eo27⟩ := Kd.bR_ HO121.out; subst eo27; obtain ⟨Ao28, co28, eo28⟩ := Kd.bR_ HO124.out; subst eo28; obtain ⟨Ao29, co29, eo29⟩ := Kd.bR_ HO127.out; subst eo29; obtain ⟨Ao30, co30, eo30⟩ := Kd.bR_ HO130.out; subst eo30) | ((with_reducible refine al_ (N := 11) rfl ?_); refine Kd.N_lit (Kd.slice 2 (Kd.int .i64)) _ 71 ?hg (N' := 11) ?hd (xs := ([y101, y104, y107, y110, y113, y116, y119, y122, y125, y128] : List (List Int))) (inner := [.slice Ao21 y101.length co21, .slice Ao22 y104.length co22, .slice Ao23 y107.length co23, .slice Ao24 y110.length co24, .slice Ao25 y113.length co25, .slice Ao26 y116.length co26, .slice Ao27 y119.length co27, .slice Ao28 y122.length co28, .slice Ao29 y125.length co29, .slice Ao30 y128.length co30]) (ok := (fun k_ => (w.heap.size ≤ k_))) (okp := (fun k_ => (w.heap.size ≤ k_))) ?hr ?hp (fun _ hk => hk) ((show ∀ k_, w19.heap.size ≤ k_ → (fun k_ => (w.heap.size ≤ k_)) k_ from fun k_ hk => (Nat.le_trans (ae_ (bz HB.out)) hk)) _ (Nat.le_refl _)) (Below.refl _ _) (Nat.le_refl _) (by simp) ?_; (case hd => rfl); (case hg => rfl); (case hr => (go_simp; try rfl)); (case hp => exact (Reps.one (show Kd.FK (Kd.slice 2 (Kd.int .i64)) _ _ y101 [.slice Ao21 y101.length co21] from (Kd.cy_ (Kd.aV_ (Kd.bO_ (ok' := (fun k_ => (w.heap.size ≤ k_))) (HO103.out) (fun k_ hk => hk.1.1.1.1.1.1.1.1.1.1))).2.1 (Kd.R_F (Kd.bO_ (ok' := (fun k_ => (w.heap.size ≤ k_))) (HO103.out) (fun k_ hk => hk.1.1.1.1.1.1.1.1.1.1))))) (Reps.one (show Kd.FK (Kd.slice 2 (Kd.int .i64)) _ _ y104 [.slice Ao22 y104.length co22] from (Kd.cy_ (Kd.aV_ (Kd.bO_ (ok' := (fun k_ => (w.heap.size ≤ k_))) (HO106.out) (fun k_ hk => hk.1.1.1.1.1.1.1.1.1.1))).2.1 (Kd.R_F (Kd.bO_ (ok' := (fun k_ => (w.heap.size ≤ k_))) (HO106.out) (fun k_ hk => hk.1.1.1.1.1.1.1.1.1.1))))) (Reps.one (show Kd.FK (Kd.slice 2 (Kd.int .i64)) _ _ y107 [.slice Ao23 y107.length co23] from (Kd.cy_ (Kd.aV_ (Kd.bO_ (ok' := (fun k_ => (w.heap.size ≤ k_))) (HO109.out) (fun k_ hk => hk.1.1.1.1.1.1.1.1.1.1))).2.1 (Kd.R_F (Kd.bO_ (ok' := (fun k_ => (w.heap.size ≤ k_))) (HO109.out) (fun k_ hk => hk.1.1.1.1.1.1.1.1.1.1))))) (Reps.one (show Kd.FK (Kd.slice 2 (Kd.int .i64)) _ _ y110 [.slice Ao24 y110.length co24] from (Kd.cy_ (Kd.aV_ (Kd.bO_ (ok' := (fun k_ => (w.heap.size ≤ k_))) (HO112.out) (fun k_ hk => hk.1.1.1.1.1.1.1.1.1.1))).2.1 (Kd.R_F (Kd.bO_ (ok' := (fun k_ => (w.heap.size ≤ k_))) (HO112.out) (fun k_ hk => hk.1.1.1.1.1.1.1.1.1.1))))) (Reps.one (show Kd.FK (Kd.slice 2 (Kd.int .i64)) _ _ y113 [.slice Ao25 y113.length co25] from (Kd.cy_ (Kd.aV_ (Kd.bO_ (ok' := (fun k_ => (w.heap.size ≤ k_))) (HO115.out) (fun k_ hk => hk.1.1.1.1.1.1.1.1.1.1))).2.1 (Kd.R_F (Kd.bO_ (ok' := (fun k_ => (w.heap.size ≤ k_))) (HO115.out) (fun k_ hk => hk.1.1.1.1.1.1.1.1.1.1))))) (Reps.one (show Kd.FK (Kd.slice 2 (Kd.int .i64)) _ _ y116 [.slice Ao26 y116.length co26] from (Kd.cy_ (Kd.aV_ (Kd.bO_ (ok' := (fun k_ => (w.heap.size ≤ k_))) (HO118.out) (fun k_ hk => hk.1.1.1.1.1.1.1.1.1.1))).2.1 (Kd.R_F (Kd.bO_ (ok' := (fun k_ => (w.heap.size ≤ k_))) (HO118.out) (fun k_ hk => hk.1.1.1.1.1.1.1.1.1.1))))) (Reps.one (show Kd.FK (Kd.slice 2 (Kd.int .i64)) _ _ y119 [.slice Ao27 y119.length co27] from (Kd.cy_ (Kd.aV_ (Kd.bO_ (ok' := (fun k_ => (w.heap.size ≤ k_))) (HO121.out) (fun k_ hk => hk.1.1.1.1.1.1.1.1.1.1))).2.1 (Kd.R_F (Kd.bO_ (ok' := (fun k_ => (w.heap.size ≤ k_))) (HO121.out) (fun k_ hk => hk.1.1.1.1.1.1.1.1.1.1))))) (Reps.one (show Kd.FK (Kd.slice 2 (Kd.int .i64)) _ _ y122 [.slice Ao28 y122.length co28] from (Kd.cy_ (Kd.aV_ (Kd.bO_ (ok' := (fun k_ => (w.heap.size ≤ k_))) (HO124.out) (fun k_ hk => hk.1.1.1.1.1.1.1.1.1.1))).2.1 (Kd.R_F (Kd.bO_ (ok' := (fun k_ => (w.heap.size ≤ k_))) (HO124.out) (fun k_ hk => hk.1.1.1.1.1.1.1.1.1.1))))) (Reps.one (show Kd.FK (Kd.slice 2 (Kd.int .i64)) _ _ y125 [.slice Ao29 y125.length co29] from (Kd.cy_ (Kd.aV_ (Kd.bO_ (ok' := (fun k_ => (w.heap.size ≤ k_))) (HO127.out) (fun k_ hk => hk.1.1.1.1.1.1.1.1.1.1))).2.1 (Kd.R_F (Kd.bO_ (ok' := (fun k_ => (w.heap.size ≤ k_))) (HO127.out) (fun k_ hk => hk.1.1.1.1.1.1.1.1.1.1))))) (Reps.one (show Kd.FK (Kd.slice 2 (Kd.int .i64)) _ _ y128 [.slice Ao30 y128.length co30] from (Kd.cy_ (Kd.aV_ (Kd.bO_ (ok' := (fun k_ => (w.heap.size ≤ k_))) (HO130.out) (fun k_ hk => hk.1.1.1.1.1.1.1.1.1.1))).2.1 (Kd.R_F (Kd.bO_ (ok' := (fun k_ => (w.heap.size ≤ k_))) (HO130.out) (fun k_ hk => hk.1.1.1.1.1.1.1.1.1.1))))) (Reps.none _ _)))))))))))); intro v132 w31 ho32 hb hg_ hnew_; clear hg_ hnew_; (first | rw [← Ny131.out] at ho32 | (simp only [Int.reduceToNat] at ho32; rw [← Ny131.out] at ho32)); have HO133 := Aside0.mk (Kd.N_lower ho32 (ae_ (bz HB.out))); replace HB := Aside0.mk (ad_ (bz HB.out) hb); clear HO103; clear HO106; clear HO109; clear HO112; clear HO115; clear HO118; clear HO121; clear HO124; clear HO127; clear HO130; clear hb ho32))
 go_ret
 exact ⟨_, by first | rfl | (simp [*, ah_, ai_] <;> rfl), nz HO133.out, bz HB.out⟩
def cF_.f (a0 : Int) : Option (Bool) := (ao_.f a0 0 179).bind fun t101 => (some t101)
set_option maxHeartbeats 8000000 in
set_option maxRecDepth 100000 in
theorem cF_.calls (a0 : Int) (r : Bool) (w : World) (h : cF_.f a0 = some r) :
  Calls Try.prog 79 #[.int .i64 a0] w fun e w' => e = .returned (.bool r) ∧ as_ w w' := by
 have H : ((ao_.f a0 0 179).bind fun t101 => (some t101)) = some r := h
 clear h
 replace H := Option.bind_eq_some_iff.mp H
 obtain ⟨t101, A20, H⟩ := H
 (try dsimp only at H)
 have A2 := Aside0.mk A20
 clear A20
 obtain rfl := Option.some.inj H
 go_enter Try.func79, Try.ntmps79
 go_wp2_with (first | ((with_reducible refine an_ (f := 47) rfl ?_); refine aU_ (some 4) rfl rfl Try.func47 (by kernel_rfl) rfl #[.int .i64 a0, .int .i64 0, .int .i64 179] rfl (by first | rfl | (simp only [lma_, lmc_, lmn_]; first | done | rfl)) ?_; (with_reducible refine (ao_.calls a0 0 179 t101 _ A2.out).mono ?_); rintro e w' ⟨rfl, ⟨nd, rfl⟩⟩; refine ⟨_, rfl, ?_⟩))
 go_ret
 exact ⟨by first | rfl | (simp; done) | (simp [*]; done), by repeat (first | exact as_.refl _ | apply as_.step)⟩
def bV_.j0 : Nat → List (S56) → Int → Bool → Option (Bool)
 | 0, _, _, _ => none
 | k + 1, x0, x3, x19 => if x19 = true then (some false) else ((cE_.f).bind fun t105 => (if 0 ≤ x3 then (if x3 < (t105.length : Int) then (if 0 < ((rd_L3 t105 x3).length : Int) then (if 0 < (x0.length : Int) then ((ao_.f ((aR_ x0 0).f1) (wrap64 ((rd (rd_L3 t105 x3) 0) - 15)) (wrap64 ((rd (rd_L3 t105 x3) 0) + 15))).bind fun t111 => (if t111 = true then ((cF_.f ((aR_ x0 0).f2)).bind fun t113 => (some t113)) else (some false))) else (none)) else (none)) else (none)) else (none)))
def bV_.f (k : Nat) (l0 : List (S56)) : Option (Bool) := if 0 < (l0.length : Int) then ((bB_.f k ((aR_ l0 0).f0)).bind fun t102 => (if t102 < 0 then (bV_.j0 k l0 t102 true) else ((ao_.f ((aR_ l0 0).f1) 0 100).bind fun t104 => (bV_.j0 k l0 t102 (!t104))))) else (none)
set_option maxHeartbeats 8000000 in
set_option maxRecDepth 100000 in
theorem bV_.calls (k : Nat) (A0 : Option Addr) (l0 : List (S56)) (r : Bool) (w : World) (hr0 : Kd.C k56 w A0 l0.length l0) (h : bV_.f k l0 = some r) :
  Calls Try.prog 64 #[.pointer A0] w fun e w' => e = .returned (.bool r) ∧ Below w.heap.size w w' := by
 have HR0 := Aside0.mk hr0
 clear hr0
 have HB := Aside0.mk (Below.refl w.heap.size w)
 have H : (if 0 < (l0.length : Int) then ((bB_.f k ((aR_ l0 0).f0)).bind fun t102 => (if t102 < 0 then (bV_.j0 k l0 t102 true) else ((ao_.f ((aR_ l0 0).f1) 0 100).bind fun t104 => (bV_.j0 k l0 t102 (!t104))))) else (none)) = some r := h
 clear h
 by_cases c2 : 0 < (l0.length : Int)
 rotate_left
 ·rw [if_neg c2] at H
  exact absurd H (by simp)
 rw [if_pos c2] at H
 have c2b0 : decide (0 < (l0.length : Int)) = true := decide_eq_true c2
 have c2b1 : decide (0 < l0.length) = true := decide_eq_true (by omega)
 clear c2
 replace H := Option.bind_eq_some_iff.mp H
 obtain ⟨t102, A30, H⟩ := H
 (try dsimp only at H)
 have A3 := Aside0.mk A30
 clear A30
 have HC4 := Aside0.mk H
 clear H
 have p101 : 0 ≤ (0 : Int) := (by omega)
 have q101 : 0 < (l0.length : Int) := of_decide_eq_true (by assumption)
 obtain ⟨ad101, e101, hx101_0, hx101_1, hx101_2⟩ := at_T56 HR0.out 0 p101 q101
 cases e101
 have qi101 : (0 < l0.length) = True := eq_true (by omega)
 (try simp only [Int.toNat_zero, Nat.zero_mul, Addr.add_zero'] at hx101_0 hx101_1 hx101_2)
 replace p101 := eq_true p101
 replace q101 := eq_true q101
 go_enter Try.func64, Try.ntmps64
 go_upto_region 2 with (first | ((with_reducible refine an_ (f := 32) rfl ?_); refine aU_ (some 9) rfl rfl Try.func32 (by kernel_rfl) rfl #[.string ((aR_ l0 0).f0)] rfl (by first | rfl | (simp only [lma_, lmc_, lmn_]; first | done | rfl)) ?_; (with_reducible refine (bB_.calls k ((aR_ l0 0).f0) t102 _ A3.out).mono ?_); rintro e w5 ⟨rfl, hb⟩; refine ⟨_, rfl, ?_⟩; replace HB := Aside0.mk (ad_ (bz HB.out) hb); (try clear hb)))
 (try simp only [Act.put, lsa_, ls0_, ls1_])
 go_cut [19] (fun v19 wc => ∃ (kq : Nat) (x19_3 : Bool), v19 = .bool x19_3 ∧ Aside0 (bV_.j0 kq l0 t102 x19_3 = some r) ∧ Aside0 (kq ≤ k) ∧ Aside0 (Below w.heap.size w wc))
 case first =>
  have H := HC4.out
  clear HC4
  by_cases c6 : t102 < 0
  rotate_left
  ·rw [if_neg c6] at H
   have c6b0 : decide (t102 < 0) = false := decide_eq_false c6
   clear c6
   (first | rw [c6b0] | (simp only [i64_w, i32_w]; rw [c6b0]) | (simp only [c6b1, Bool.not_true, Bool.not_false]) | (simp only [c6b0, Bool.not_true, Bool.not_false]) | skip)
   replace H := Option.bind_eq_some_iff.mp H
   obtain ⟨t104, A70, H⟩ := H
   (try dsimp only at H)
   have A7 := Aside0.mk A70
   clear A70
   have H' := Aside0.mk H
   clear H
   have p103 : 0 ≤ (0 : Int) := (by omega)
   have q103 : 0 < (l0.length : Int) := of_decide_eq_true (by assumption)
   obtain ⟨ad103, e103, hx103_0, hx103_1, hx103_2⟩ := at_T56 HR0.out 0 p103 q103
   obtain rfl : ad101 = ad103 := (by injection e103)
   have qi103 : (0 < l0.length) = True := eq_true (by omega)
   (try simp only [Int.toNat_zero, Nat.zero_mul, Addr.add_zero'] at hx103_0 hx103_1 hx103_2)
   replace hx103_0 := bu_ HB.out hx103_0
   replace hx103_1 := bu_ HB.out hx103_1
   replace hx103_2 := bu_ HB.out hx103_2
   replace p103 := eq_true p103
   replace q103 := eq_true q103
   go_wp2_with (first | (go_at_call 47; (with_reducible refine (ao_.calls ((aR_ l0 0).f1) 0 100 t104 _ A7.out).mono ?_); rintro e w' ⟨rfl, ⟨nd, rfl⟩⟩))
   go_meet
   case rel => exact ⟨_, (!t104), (by first | rfl | (simp; done) | (simp [*]; done)), H', ⟨by first | omega | exact Nat.le_refl _⟩, ⟨bz HB.out⟩⟩
  rw [if_pos c6] at H
  have c6b0 : decide (t102 < 0) = true := decide_eq_true c6
  clear c6
  (first | rw [c6b0] | (simp only [i64_w, i32_w]; rw [c6b0]) | (simp only [c6b1, Bool.not_true, Bool.not_false]) | (simp only [c6b0, Bool.not_true, Bool.not_false]) | skip)
  have H' := Aside0.mk H
  clear H
  go_wp2
  go_meet
  case rel => exact ⟨_, (true), (by first | rfl | (simp; done) | (simp [*]; done)), H', ⟨by first | omega | exact Nat.le_refl _⟩, ⟨bz HB.out⟩⟩
 case rest =>
  clear HC4
  obtain ⟨kq, x19_3, rfl, HA, HJ3, HB⟩ := hcut
  cases kq with
  | zero => exact absurd HA.out (by simp [bV_.j0])
  | succ kj3 =>
   have H := HA.out
   clear HA
   simp only [bV_.j0] at H
   by_cases c8 : x19_3 = true
   rotate_left
   ·replace c8 := Bool.eq_false_iff.mpr c8
    subst c8
    have H1 : ((cE_.f).bind fun t105 => (if 0 ≤ t102 then (if t102 < (t105.length : Int) then (if 0 < ((rd_L3 t105 t102).length : Int) then (if 0 < (l0.length : Int) then ((ao_.f ((aR_ l0 0).f1) (wrap64 ((rd (rd_L3 t105 t102) 0) - 15)) (wrap64 ((rd (rd_L3 t105 t102) 0) + 15))).bind fun t111 => (if t111 = true then ((cF_.f ((aR_ l0 0).f2)).bind fun t113 => (some t113)) else (some false))) else (none)) else (none)) else (none)) else (none))) = some r := by rw [if_neg (show ¬ (false = true) by decide)] at H; exact H
    clear H
    have H := H1
    clear H1
    replace H := Option.bind_eq_some_iff.mp H
    obtain ⟨t105, A90, H⟩ := H
    (try dsimp only at H)
    have A9 := Aside0.mk A90
    clear A90
    by_cases c10 : 0 ≤ t102
    rotate_left
    ·rw [if_neg c10] at H
     exact absurd H (by simp)
    rw [if_pos c10] at H
    have c10b0 : decide (0 ≤ t102) = true := decide_eq_true c10
    clear c10
    by_cases c11 : t102 < (t105.length : Int)
    rotate_left
    ·rw [if_neg c11] at H
     exact absurd H (by simp)
    rw [if_pos c11] at H
    have c11b0 : decide (t102 < (t105.length : Int)) = true := decide_eq_true c11
    clear c11
    by_cases c12 : 0 < ((rd_L3 t105 t102).length : Int)
    rotate_left
    ·rw [if_neg c12] at H
     exact absurd H (by simp)
    rw [if_pos c12] at H
    have c12b0 : decide (0 < ((rd_L3 t105 t102).length : Int)) = true := decide_eq_true c12
    have c12b1 : decide (0 < (rd_L3 t105 t102).length) = true := decide_eq_true (by omega)
    clear c12
    by_cases c13 : 0 < (l0.length : Int)
    rotate_left
    ·rw [if_neg c13] at H
     exact absurd H (by simp)
    rw [if_pos c13] at H
    have c13b0 : decide (0 < (l0.length : Int)) = true := decide_eq_true c13
    have c13b1 : decide (0 < l0.length) = true := decide_eq_true (by omega)
    clear c13
    replace H := Option.bind_eq_some_iff.mp H
    obtain ⟨t111, A140, H⟩ := H
    (try dsimp only at H)
    have A14 := Aside0.mk A140
    clear A140
    by_cases c15 : t111 = true
    rotate_left
    ·replace c15 := Bool.eq_false_iff.mpr c15
     subst c15
     have H1 : (some false) = some r := by rw [if_neg (show ¬ (false = true) by decide)] at H; exact H
     clear H
     have H := H1
     clear H1
     obtain rfl := Option.some.inj H
     go_wp2_with (first | ((with_reducible refine an_ (f := 78) rfl ?_); refine aU_ (some 20) rfl rfl Try.func78 (by kernel_rfl) rfl #[] rfl (by first | rfl | (simp only [lma_, lmc_, lmn_]; first | done | rfl)) ?_; (with_reducible refine (cE_.calls  t105 _ A9.out).mono ?_); rintro e w19 ⟨v106, rfl, ho0, hb⟩; refine ⟨_, rfl, ?_⟩; have HO107 := Aside0.mk (Kd.N_lower (Kd.N_mono (ok' := fun k_ => True) ho0 (fun k_ hk_ => trivial)) (ae_ (bz HB.out))); replace HB := Aside0.mk (ad_ (bz HB.out) hb); (try clear hb); (try clear ho0); obtain ⟨Ao20, co20, eo20⟩ := Kd.N_slice HO107.out; subst eo20; have p108 : 0 ≤ (t102 : Int) := of_decide_eq_true (by assumption); have q108 : t102 < (t105.length : Int) := of_decide_eq_true (by assumption); obtain ⟨ad108, A108_0, c108_0, e108, hx108_0, hl108_0, hi108_0⟩ := at_L3 (Kd.N_reads' HO107.out).2.2 t102 p108 q108; cases e108; obtain ⟨ce108, hce108, hMe108, hcc108⟩ := Kd.N_get HO107.out [] t102 p108 (by first | exact q108 | exact of_decide_eq_true (by assumption) | (have e_ := (Kd.N_reads' HO107.out).1; omega)); obtain ⟨ua108_0, uc108_0, rfl, ul108_0, ge108_0⟩ := Kd.FK_slice_open hMe108; have hv108_0 := hcc108 0 _ rfl; rw [Nat.add_zero, show ((Kd.slice 2 (Kd.int .i64))).sz = 1 from rfl, Nat.mul_one] at hv108_0; replace hv108_0 := Option.some.inj (hv108_0.symm.trans hx108_0); injection hv108_0 with hva_ hvn_ hvc_; rw [hva_] at ge108_0; rw [hvc_] at ul108_0; have HL108_0 := Aside0.mk (show Kd.V (Kd.int .i64) 2 _ w.heap.size _ _ (rd_L3 t105 t102) from Kd.V_mk ul108_0 ge108_0); clear hva_ hvn_ hvc_ ge108_0 ul108_0; clear hcc108 hce108; have HR108_0 := Aside0.mk hi108_0; have HC108_0 := Aside0.mk hl108_0; clear hi108_0 hl108_0; replace p108 := eq_true p108; replace q108 := eq_true q108; have p109 : 0 ≤ (0 : Int) := (by omega); have q109 : 0 < ((rd_L3 t105 t102).length : Int) := of_decide_eq_true (by assumption); obtain ⟨ad109, e109, hx109_0⟩ := Kd.at_int (by repeat (first | (with_reducible exact HR108_0.out) | (with_reducible first | refine Kd.cL_ ?_ _ | refine Kd.cJ_ ?_ _ | refine Kd.dx_ ?_) | exact HR108_0.out)) 0 p109 q109; cases e109; have qi109 : (0 < (rd_L3 t105 t102).length) = True := eq_true (by omega); (try rw [show ((0 : Int)).toNat = 0 from rfl] at hx109_0); (try rw [Addr.add_zero'] at hx109_0); replace p109 := eq_true p109; replace q109 := eq_true q109; have p110 : 0 ≤ (0 : Int) := (by omega); have q110 : 0 < (l0.length : Int) := of_decide_eq_true (by assumption); obtain ⟨ad110, e110, hx110_0, hx110_1, hx110_2⟩ := at_T56 HR0.out 0 p110 q110; obtain rfl : ad101 = ad110 := (by injection e110); have qi110 : (0 < l0.length) = True := eq_true (by omega); (try simp only [Int.toNat_zero, Nat.zero_mul, Addr.add_zero'] at hx110_0 hx110_1 hx110_2); replace hx110_0 := bu_ HB.out hx110_0; replace hx110_1 := bu_ HB.out hx110_1; replace hx110_2 := bu_ HB.out hx110_2; replace p110 := eq_true p110; replace q110 := eq_true q110) | ((with_reducible refine an_ (f := 47) rfl ?_); refine aU_ (some 34) rfl rfl Try.func47 (by kernel_rfl) rfl #[.int .i64 ((aR_ l0 0).f1), .int .i64 (wrap64 ((rd (rd_L3 t105 t102) 0) - 15)), .int .i64 (wrap64 ((rd (rd_L3 t105 t102) 0) + 15))] rfl (by first | rfl | (simp only [lma_, lmc_, lmn_]; first | done | rfl)) ?_; (with_reducible refine (ao_.calls ((aR_ l0 0).f1) (wrap64 ((rd (rd_L3 t105 t102) 0) - 15)) (wrap64 ((rd (rd_L3 t105 t102) 0) + 15)) false _ A14.out).mono ?_); rintro e w' ⟨rfl, ⟨nd, rfl⟩⟩; refine ⟨_, rfl, ?_⟩))
     go_ret
     exact ⟨by first | rfl | (simp [*, ah_, ai_] <;> rfl), bz HB.out⟩
    subst c15
    have H1 : ((cF_.f ((aR_ l0 0).f2)).bind fun t113 => (some t113)) = some r := by rw [if_pos rfl] at H; exact H
    clear H
    have H := H1
    clear H1
    replace H := Option.bind_eq_some_iff.mp H
    obtain ⟨t113, A160, H⟩ := H
    (try dsimp only at H)
    have A16 := Aside0.mk A160
    clear A160
    obtain rfl := Option.some.inj H
    go_wp2_with (first | ((with_reducible refine an_ (f := 78) rfl ?_); refine aU_ (some 20) rfl rfl Try.func78 (by kernel_rfl) rfl #[] rfl (by first | rfl | (simp only [lma_, lmc_, lmn_]; first | done | rfl)) ?_; (with_reducible refine (cE_.calls  t105 _ A9.out).mono ?_); rintro e w17 ⟨v106, rfl, ho0, hb⟩; refine ⟨_, rfl, ?_⟩; have HO107 := Aside0.mk (Kd.N_lower (Kd.N_mono (ok' := fun k_ => True) ho0 (fun k_ hk_ => trivial)) (ae_ (bz HB.out))); replace HB := Aside0.mk (ad_ (bz HB.out) hb); (try clear hb); (try clear ho0); obtain ⟨Ao18, co18, eo18⟩ := Kd.N_slice HO107.out; subst eo18; have p108 : 0 ≤ (t102 : Int) := of_decide_eq_true (by assumption); have q108 : t102 < (t105.length : Int) := of_decide_eq_true (by assumption); obtain ⟨ad108, A108_0, c108_0, e108, hx108_0, hl108_0, hi108_0⟩ := at_L3 (Kd.N_reads' HO107.out).2.2 t102 p108 q108; cases e108; obtain ⟨ce108, hce108, hMe108, hcc108⟩ := Kd.N_get HO107.out [] t102 p108 (by first | exact q108 | exact of_decide_eq_true (by assumption) | (have e_ := (Kd.N_reads' HO107.out).1; omega)); obtain ⟨ua108_0, uc108_0, rfl, ul108_0, ge108_0⟩ := Kd.FK_slice_open hMe108; have hv108_0 := hcc108 0 _ rfl; rw [Nat.add_zero, show ((Kd.slice 2 (Kd.int .i64))).sz = 1 from rfl, Nat.mul_one] at hv108_0; replace hv108_0 := Option.some.inj (hv108_0.symm.trans hx108_0); injection hv108_0 with hva_ hvn_ hvc_; rw [hva_] at ge108_0; rw [hvc_] at ul108_0; have HL108_0 := Aside0.mk (show Kd.V (Kd.int .i64) 2 _ w.heap.size _ _ (rd_L3 t105 t102) from Kd.V_mk ul108_0 ge108_0); clear hva_ hvn_ hvc_ ge108_0 ul108_0; clear hcc108 hce108; have HR108_0 := Aside0.mk hi108_0; have HC108_0 := Aside0.mk hl108_0; clear hi108_0 hl108_0; replace p108 := eq_true p108; replace q108 := eq_true q108; have p109 : 0 ≤ (0 : Int) := (by omega); have q109 : 0 < ((rd_L3 t105 t102).length : Int) := of_decide_eq_true (by assumption); obtain ⟨ad109, e109, hx109_0⟩ := Kd.at_int (by repeat (first | (with_reducible exact HR108_0.out) | (with_reducible first | refine Kd.cL_ ?_ _ | refine Kd.cJ_ ?_ _ | refine Kd.dx_ ?_) | exact HR108_0.out)) 0 p109 q109; cases e109; have qi109 : (0 < (rd_L3 t105 t102).length) = True := eq_true (by omega); (try rw [show ((0 : Int)).toNat = 0 from rfl] at hx109_0); (try rw [Addr.add_zero'] at hx109_0); replace p109 := eq_true p109; replace q109 := eq_true q109; have p110 : 0 ≤ (0 : Int) := (by omega); have q110 : 0 < (l0.length : Int) := of_decide_eq_true (by assumption); obtain ⟨ad110, e110, hx110_0, hx110_1, hx110_2⟩ := at_T56 HR0.out 0 p110 q110; obtain rfl : ad101 = ad110 := (by injection e110); have qi110 : (0 < l0.length) = True := eq_true (by omega); (try simp only [Int.toNat_zero, Nat.zero_mul, Addr.add_zero'] at hx110_0 hx110_1 hx110_2); replace hx110_0 := bu_ HB.out hx110_0; replace hx110_1 := bu_ HB.out hx110_1; replace hx110_2 := bu_ HB.out hx110_2; replace p110 := eq_true p110; replace q110 := eq_true q110) | ((with_reducible refine an_ (f := 47) rfl ?_); refine aU_ (some 34) rfl rfl Try.func47 (by kernel_rfl) rfl #[.int .i64 ((aR_ l0 0).f1), .int .i64 (wrap64 ((rd (rd_L3 t105 t102) 0) - 15)), .int .i64 (wrap64 ((rd (rd_L3 t105 t102) 0) + 15))] rfl (by first | rfl | (simp only [lma_, lmc_, lmn_]; first | done | rfl)) ?_; (with_reducible refine (ao_.calls ((aR_ l0 0).f1) (wrap64 ((rd (rd_L3 t105 t102) 0) - 15)) (wrap64 ((rd (rd_L3 t105 t102) 0) + 15)) true _ A14.out).mono ?_); rintro e w' ⟨rfl, ⟨nd, rfl⟩⟩; refine ⟨_, rfl, ?_⟩; have p112 : 0 ≤ (0 : Int) := (by omega); have q112 : 0 < (l0.length : Int) := of_decide_eq_true (by assumption); obtain ⟨ad112, e112, hx112_0, hx112_1, hx112_2⟩ := at_T56 HR0.out 0 p112 q112; obtain rfl : ad101 = ad112 := (by injection e112); have qi112 : (0 < l0.length) = True := eq_true (by omega); (try simp only [Int.toNat_zero, Nat.zero_mul, Addr.add_zero'] at hx112_0 hx112_1 hx112_2); replace hx112_0 := bu_ HB.out hx112_0; replace hx112_1 := bu_ HB.out hx112_1; replace hx112_2 := bu_ HB.out hx112_2; replace p112 := eq_true p112; replace q112 := eq_true q112) | (go_at_call 79; (with_reducible refine (cF_.calls ((aR_ l0 0).f2) t113 _ A16.out).mono ?_); rintro e w' ⟨rfl, ⟨nd, rfl⟩⟩))
    go_ret
    exact ⟨by first | rfl | (simp [*, ah_, ai_] <;> rfl), bz HB.out⟩
   subst c8
   have H1 : (some false) = some r := by rw [if_pos rfl] at H; exact H
   clear H
   have H := H1
   clear H1
   obtain rfl := Option.some.inj H
   go_wp2
   go_ret
   exact ⟨by first | rfl | (simp [*, ah_, ai_] <;> rfl), bz HB.out⟩
def aZ_.l0 : Nat → List (S56) → Int → Option (Bool)
 | 0, _, _ => none
 | k + 1, x0, x3 => if x3 < (x0.length : Int) then (if 0 ≤ x3 then ((bV_.f k [aR_ x0 x3]).bind fun t102 => (if t102 = true then (aZ_.l0 k x0 (wrap64 (x3 + 1))) else (some false))) else (none)) else (some true)
def aZ_.f (k : Nat) (l0 : List (S56)) : Option (Bool) := aZ_.l0 k l0 0
set_option maxHeartbeats 8000000 in
set_option maxRecDepth 100000 in
theorem aZ_.calls (k : Nat) (A0 : Option Addr) (c0 : Nat) (l0 : List (S56)) (r : Bool) (w : World) (hr0 : Kd.C k56 w A0 l0.length l0) (hc0 : l0.length ≤ c0) (h : aZ_.f k l0 = some r) :
  Calls Try.prog 46 #[.slice A0 l0.length c0] w fun e w' => e = .returned (.bool r) ∧ Below w.heap.size w w' := by
 have HR0 := Aside0.mk hr0
 have HC0 := Aside0.mk hc0
 clear hr0 hc0
 have HB := Aside0.mk (Below.refl w.heap.size w)
 have H : (aZ_.l0 k l0 0) = some r := h
 clear h
 have H' := Aside0.mk H
 clear H
 go_enter Try.func46, Try.ntmps46
 go_wp2
 (try simp only [Act.put, lsa_, ls0_, ls1_])
 go_loopg [3] k (fun kq v3 w' => ∃ (x3_1 : Int), v3 = .int .i64 x3_1 ∧ Aside0 (aZ_.l0 kq l0 x3_1 = some r) ∧ Aside0 (kq ≤ k) ∧ Aside0 (Below w.heap.size w w'))
 case atStart => exact ⟨(0), (by first | rfl | (simp; done) | (simp [*]; done)), H', ⟨Nat.le_refl _⟩, ⟨bz HB.out⟩⟩
 case round =>
  clear H'
  obtain ⟨x3_1, rfl, HA, HK1, HB⟩ := hrel
  cases gk with
  | zero => exact absurd HA.out (by simp [aZ_.l0])
  | succ k1 =>
   have H := HA.out
   clear HA
   simp only [aZ_.l0] at H
   by_cases c2 : x3_1 < (l0.length : Int)
   rotate_left
   ·rw [if_neg c2] at H
    have c2b0 : decide (x3_1 < (l0.length : Int)) = false := decide_eq_false c2
    clear c2
    obtain rfl := Option.some.inj H
    go_wp2
    go_ret
    exact ⟨by first | rfl | (simp [*, ah_, ai_] <;> rfl), bz HB.out⟩
   rw [if_pos c2] at H
   have c2b0 : decide (x3_1 < (l0.length : Int)) = true := decide_eq_true c2
   clear c2
   by_cases c3 : 0 ≤ x3_1
   rotate_left
   ·rw [if_neg c3] at H
    exact absurd H (by simp)
   rw [if_pos c3] at H
   have c3b0 : decide (0 ≤ x3_1) = true := decide_eq_true c3
   clear c3
   replace H := Option.bind_eq_some_iff.mp H
   obtain ⟨t102, A40, H⟩ := H
   (try dsimp only at H)
   have A4 := Aside0.mk A40
   clear A40
   have HC5 := Aside0.mk H
   clear H
   have p101 : 0 ≤ (x3_1 : Int) := of_decide_eq_true (by assumption)
   have q101 : x3_1 < (l0.length : Int) := of_decide_eq_true (by assumption)
   obtain ⟨ad101, e101, hx101_0, hx101_1, hx101_2⟩ := at_T56 HR0.out x3_1 p101 q101
   cases e101
   replace hx101_0 := bu_ HB.out hx101_0
   replace hx101_1 := bu_ HB.out hx101_1
   replace hx101_2 := bu_ HB.out hx101_2
   replace p101 := eq_true p101
   replace q101 := eq_true q101
   go_upto_if 14 with (first | ((with_reducible refine an_ (f := 64) rfl ?_); refine aU_ (some 13) rfl rfl Try.func64 (by kernel_rfl) rfl #[.pointer (some ((ad101.add ((x3_1 : Int).toNat * 3)).add 0))] rfl (by first | rfl | (simp only [lma_, lmc_, lmn_]; first | done | rfl)) ?_; (with_reducible refine (bV_.calls k1 _ [aR_ l0 x3_1] t102 _ ?side1 A4.out).mono ?_); (case side1 => exact (RPW.C_elem (ad := ad101) (n := l0.length) (xs := l0) z56 (i := x3_1) (by first | exact of_eq_true p101 | exact p101 | omega) (by first | exact of_eq_true q101 | exact q101 | omega) (by first | exact (Kd.aF_ HR0.out HB.out) | exact cz (Kd.aF_ HR0.out HB.out)))); rintro e w6 ⟨rfl, hb⟩; refine ⟨_, rfl, ?_⟩; replace HB := Aside0.mk (ad_ (bz HB.out) hb); (try clear hb)))
   (try simp only [Act.put, lsa_, ls0_, ls1_])
   have H := HC5.out
   clear HC5
   by_cases c7 : t102 = true
   rotate_left
   ·replace c7 := Bool.eq_false_iff.mpr c7
    subst c7
    have H1 : (some false) = some r := by rw [if_neg (show ¬ (false = true) by decide)] at H; exact H
    clear H
    have H := H1
    clear H1
    obtain rfl := Option.some.inj H
    go_wp2
    go_ret
    exact ⟨by first | rfl | (simp [*, ah_, ai_] <;> rfl), bz HB.out⟩
   subst c7
   have H1 : (aZ_.l0 k1 l0 (wrap64 (x3_1 + 1))) = some r := by rw [if_pos rfl] at H; exact H
   clear H
   have H := H1
   clear H1
   have H' := Aside0.mk H
   clear H
   go_wp2
   go_roundg k1
   case measure => have := HK1.out; omega
   case rel => exact ⟨(wrap64 (x3_1 + 1)), (by first | rfl | (simp; done) | (simp [*]; done)), H', ⟨by have := HK1.out; omega⟩, ⟨bz HB.out⟩⟩
def bK_.f (k : Nat) (l0 : List (S40)) : Option (Bool) := if 0 < (l0.length : Int) then ((ay_.f k [(aT_ l0 0).f0]).bind fun t102 => (if t102 = true then ((aZ_.f k ((aT_ l0 0).f1)).bind fun t104 => (if t104 = true then (some ((((aT_ l0 0).f1).length : Int) == (((aT_ l0 0).f0.f3).length : Int))) else (some false))) else (some false))) else (none)
def bK_.T1 : Bool × List (List Nat × List Nat) := (true, [([], []), ([0], [0]), ([1], [1]), ([2], [2]), ([3, 3], [3]), ([4], [4]), ([5, 4], [4, 5]), ([6, 4], [4, 6]), ([7, 4], [4, 7]), ([8, 4, 4], [4, 8]), ([4, 9], [4, 9]), ([10, 9], [10]), ([11], [11]), ([12, 11], [11, 12]), ([13, 11], [11, 13]), ([14, 11], [11, 14]), ([15, 11], [11, 15]), ([11], [11]), ([17, 11], [11, 17]), ([18, 11], [11, 18]), ([19, 11], [11, 19]), ([20, 11], [11, 20]), ([21, 11], [11, 21]), ([16, 22, 11], [11, 16, 22]), ([11, 23], [11, 23]), ([24, 11, 0, 1, 2, 3, 4, 5, 6, 7, 8, 9, 10, 11, 12, 13, 14, 15, 16, 17, 18, 19, 20, 21, 22, 23, 24], [24])])
def bK_.B1 : List Nat := [0, 1, 3, 7, 15, 31, 63, 127, 255, 511, 1023, 2047, 4095, 8191, 16383, 32767, 65535, 4095, 135167, 397311, 921599, 1970175, 4067327, 8388607, 16777215, 33554431]
theorem bK_.tab1 : rtab .any (opsOf Try.f27 1) = bK_.T1 := by kernel_rfl
theorem bK_.bits1 : cj_ bK_.T1.2 bK_.B1 = true := by kernel_rfl
set_option maxHeartbeats 8000000 in
set_option maxRecDepth 100000 in
theorem bK_.calls (k : Nat) (A0 : Option Addr) (l0 : List (S40)) (r : Bool) (w : World) (hr0 : Kd.C k40 w A0 l0.length l0) (h : bK_.f k l0 = some r) :
  Calls Try.prog 27 #[.pointer A0] w fun e w' => e = .returned (.bool r) ∧ Below w.heap.size w w' := by
 have HR0 := Aside0.mk hr0
 clear hr0
 have HB := Aside0.mk (Below.refl w.heap.size w)
 have H : (if 0 < (l0.length : Int) then ((ay_.f k [(aT_ l0 0).f0]).bind fun t102 => (if t102 = true then ((aZ_.f k ((aT_ l0 0).f1)).bind fun t104 => (if t104 = true then (some ((((aT_ l0 0).f1).length : Int) == (((aT_ l0 0).f0.f3).length : Int))) else (some false))) else (some false))) else (none)) = some r := h
 clear h
 by_cases c2 : 0 < (l0.length : Int)
 rotate_left
 ·rw [if_neg c2] at H
  exact absurd H (by simp)
 rw [if_pos c2] at H
 have c2b0 : decide (0 < (l0.length : Int)) = true := decide_eq_true c2
 have c2b1 : decide (0 < l0.length) = true := decide_eq_true (by omega)
 clear c2
 replace H := Option.bind_eq_some_iff.mp H
 obtain ⟨t102, A30, H⟩ := H
 (try dsimp only at H)
 have A3 := Aside0.mk A30
 clear A30
 by_cases c4 : t102 = true
 rotate_left
 ·replace c4 := Bool.eq_false_iff.mpr c4
  subst c4
  have H1 : (some false) = some r := by rw [if_neg (show ¬ (false = true) by decide)] at H; exact H
  clear H
  have H := H1
  clear H1
  obtain rfl := Option.some.inj H
  go_enter Try.func27, Try.ntmps27
  try go_wp2
  have n0_ := Aside0.mk (bD_ HB.out)
  clear HB
  have HB := n0_
  clear n0_
  have p101 : 0 ≤ (0 : Int) := (by omega)
  have q101 : 0 < (l0.length : Int) := of_decide_eq_true (by assumption)
  obtain ⟨ad101, A101_2, c101_2, A101_3, c101_3, A101_4, c101_4, e101, hx101_0, hx101_1, hx101_2, hx101_3, hx101_4, hl101_2, hi101_2, hl101_3, hi101_3, hl101_4, hi101_4⟩ := at_T40 HR0.out 0 p101 q101
  have hw101_4 := hx101_4
  (try simp only [Int.toNat_zero, Nat.zero_mul, Addr.add_zero'] at hw101_4)
  have hw101_3 := hx101_3
  (try simp only [Int.toNat_zero, Nat.zero_mul, Addr.add_zero'] at hw101_3)
  have hw101_2 := hx101_2
  (try simp only [Int.toNat_zero, Nat.zero_mul, Addr.add_zero'] at hw101_2)
  have hw101_1 := hx101_1
  (try simp only [Int.toNat_zero, Nat.zero_mul, Addr.add_zero'] at hw101_1)
  have hw101_0 := hx101_0
  (try simp only [Int.toNat_zero, Nat.zero_mul, Addr.add_zero'] at hw101_0)
  cases e101
  have qi101 : (0 < l0.length) = True := eq_true (by omega)
  (try simp only [Int.toNat_zero, Nat.zero_mul, Addr.add_zero'] at hx101_0 hx101_1)
  (try simp only [Int.toNat_zero, Nat.zero_mul, Addr.add_zero'] at hx101_2 hx101_3 hx101_4)
  replace hx101_0 := bu_ HB.out hx101_0
  replace hx101_1 := bu_ HB.out hx101_1
  replace hx101_2 := bu_ HB.out hx101_2
  replace hx101_3 := bu_ HB.out hx101_3
  replace hx101_4 := bu_ HB.out hx101_4
  have HR101_2 := Aside0.mk hi101_2
  have HC101_2 := Aside0.mk hl101_2
  clear hi101_2 hl101_2
  have HR101_3 := Aside0.mk hi101_3
  have HC101_3 := Aside0.mk hl101_3
  clear hi101_3 hl101_3
  have HR101_4 := Aside0.mk hi101_4
  have HC101_4 := Aside0.mk hl101_4
  clear hi101_4 hl101_4
  replace p101 := eq_true p101
  replace q101 := eq_true q101
  refine cl_ (n := 26) (S := fun w' => w'.cell? ad101 = some (.int .i64 ((aT_ l0 0).f0.f0)) ∧ w'.cell? ⟨ad101.block, ad101.off + 1, none⟩ = some (.int .i64 ((aT_ l0 0).f0.f1)) ∧ w'.cell? ⟨ad101.block, ad101.off + 2, none⟩ = some (.slice A101_2 ((aT_ l0 0).f0.f2).length c101_2) ∧ w'.cell? ⟨ad101.block, ad101.off + 3, none⟩ = some (.slice A101_3 ((aT_ l0 0).f0.f3).length c101_3) ∧ w'.cell? ⟨ad101.block, ad101.off + 4, none⟩ = some (.slice A101_4 ((aT_ l0 0).f1).length c101_4)) (ds := []) #[f_,f_,f_,f_,f_,f_,f_,f_,f_,f_,f_,f_,f_,f_,f_,f_,f_,f_,f_,f_,f_,f_,f_,f_,f_,f_] (by kernel_rfl) rfl rfl ⟨(bv_ HB.out hw101_0), (bv_ HB.out hw101_1), (bv_ HB.out hw101_2), (bv_ HB.out hw101_3), (bv_ HB.out hw101_4)⟩ (fun hHeld => ?_); refine bo_ bK_.tab1 bK_.bits1 (fun HT_ HW_ => ?_)
  generalize w.drew = w13 at HB HR101_2 HR101_3 HR101_4 hx101_0 hx101_1 hx101_2 hx101_3 hx101_4 hHeld ⊢
  refine pu 0 3 #[t_,f_,f_,f_,f_,f_,f_,f_,f_,f_,f_,f_,f_,f_,f_,f_,f_,f_,f_,f_,f_,f_,f_,f_,f_,f_] HT_ ?_
  refine pu 1 4 #[t_,t_,f_,f_,f_,f_,f_,f_,f_,f_,f_,f_,f_,f_,f_,f_,f_,f_,f_,f_,f_,f_,f_,f_,f_,f_] HT_ ?_
  refine pu 2 5 #[t_,t_,t_,f_,f_,f_,f_,f_,f_,f_,f_,f_,f_,f_,f_,f_,f_,f_,f_,f_,f_,f_,f_,f_,f_,f_] HT_ ?_
  refine one_ (i := 3) (N := some 6) #[t_,t_,t_,t_,f_,f_,f_,f_,f_,f_,f_,f_,f_,f_,f_,f_,f_,f_,f_,f_,f_,f_,f_,f_,f_,f_] rfl rfl (bh_ HT_.out (by kernel_rfl)) (by decide) (fun K hK => ?_)
  (first | refine goes_ Try.func45 (by kernel_rfl) rfl #[.pointer (some ((ad101.add ((0 : Int).toNat * 5)).add 0))] (by rfl) rfl rfl (by first | rfl | (simp only [lma_, lmc_, lmn_]; first | done | rfl)) ?_ | refine RPW.by_ Try.func45 (by kernel_rfl) rfl #[.pointer (some ((ad101.add ((0 : Int).toNat * 5)).add 0))] (by rfl) rfl rfl rfl (by first | rfl | (simp only [lma_, lmc_, lmn_]; first | done | rfl)) ?_ | refine RPW.bz_ Try.func45 (by kernel_rfl) rfl #[.pointer (some ((ad101.add ((0 : Int).toNat * 5)).add 0))] (by rfl) rfl rfl rfl (by first | rfl | (simp only [lma_, lmc_, lmn_]; first | done | rfl)) ?_)
  with_reducible refine (ay_.calls k _ [(aT_ l0 0).f0] false _ ?side1 A3.out).mono ?_
  (case side1 => exact (RPW.C_fst (RPW.C_iso (RPW.C_elem (ad := ad101) (n := l0.length) (xs := l0) z40 (i := 0) (by first | exact of_eq_true p101 | exact p101 | omega) (by first | exact of_eq_true q101 | exact q101 | omega) (by first | exact (Kd.aF_ HR0.out HB.out) | exact cz (Kd.aF_ HR0.out HB.out))))))
  rintro e w14 ⟨rfl, hb⟩
  refine ⟨_, rfl, ?_⟩
  have n0_ := Aside0.mk (ad_ (bz HB.out) hb)
  clear HB
  have HB := n0_
  clear n0_
  (try clear hb)
  refine hK.out _ _ ⟨(bv_ HB.out hw101_0), (bv_ HB.out hw101_1), (bv_ HB.out hw101_2), (bv_ HB.out hw101_3), (bv_ HB.out hw101_4)⟩ (fun hHeld => ?_)
  clear hK K
  refine norm_ (a' := ?_) ?_ ?_
  rotate_left
  ·show Act.put _ (some 6) _ = _
   simp only [Act.put, lsa_, ls0_, ls1_, i64_w, i32_w]
   rfl
  refine pu 4 7 #[t_,t_,t_,t_,t_,f_,f_,f_,f_,f_,f_,f_,f_,f_,f_,f_,f_,f_,f_,f_,f_,f_,f_,f_,f_,f_] HT_ ?_
  refine pn 5 8 #[t_,t_,t_,t_,t_,t_,f_,f_,f_,f_,f_,f_,f_,f_,f_,f_,f_,f_,f_,f_,f_,f_,f_,f_,f_,f_] HT_ ?_
  refine pn 6 9 #[t_,t_,t_,t_,t_,t_,t_,f_,f_,f_,f_,f_,f_,f_,f_,f_,f_,f_,f_,f_,f_,f_,f_,f_,f_,f_] HT_ ?_
  refine pn 7 10 #[t_,t_,t_,t_,t_,t_,t_,t_,f_,f_,f_,f_,f_,f_,f_,f_,f_,f_,f_,f_,f_,f_,f_,f_,f_,f_] HT_ ?_
  refine pn 8 11 #[t_,t_,t_,t_,t_,t_,t_,t_,t_,f_,f_,f_,f_,f_,f_,f_,f_,f_,f_,f_,f_,f_,f_,f_,f_,f_] HT_ ?_
  refine pn 9 12 #[t_,t_,t_,t_,t_,t_,t_,t_,t_,t_,f_,f_,f_,f_,f_,f_,f_,f_,f_,f_,f_,f_,f_,f_,f_,f_] HT_ ?_
  refine pu 10 13 #[t_,t_,t_,t_,t_,t_,t_,t_,t_,t_,t_,f_,f_,f_,f_,f_,f_,f_,f_,f_,f_,f_,f_,f_,f_,f_] HT_ ?_
  refine pu 11 14 #[t_,t_,t_,t_,t_,t_,t_,t_,t_,t_,t_,t_,f_,f_,f_,f_,f_,f_,f_,f_,f_,f_,f_,f_,f_,f_] HT_ ?_
  refine pn 12 15 #[t_,t_,t_,t_,t_,t_,t_,t_,t_,t_,t_,t_,t_,f_,f_,f_,f_,f_,f_,f_,f_,f_,f_,f_,f_,f_] HT_ ?_
  refine pn 13 16 #[t_,t_,t_,t_,t_,t_,t_,t_,t_,t_,t_,t_,t_,t_,f_,f_,f_,f_,f_,f_,f_,f_,f_,f_,f_,f_] HT_ ?_
  refine pn 14 17 #[t_,t_,t_,t_,t_,t_,t_,t_,t_,t_,t_,t_,t_,t_,t_,f_,f_,f_,f_,f_,f_,f_,f_,f_,f_,f_] HT_ ?_
  refine pn 15 18 #[t_,t_,t_,t_,t_,t_,t_,t_,t_,t_,t_,t_,t_,t_,t_,t_,f_,f_,f_,f_,f_,f_,f_,f_,f_,f_] HT_ ?_
  refine pn 16 19 #[t_,t_,t_,t_,t_,t_,t_,t_,t_,t_,t_,t_,t_,t_,t_,t_,t_,f_,f_,f_,f_,f_,f_,f_,f_,f_] HT_ ?_
  refine pn 17 20 #[t_,t_,t_,t_,t_,t_,t_,t_,t_,t_,t_,t_,t_,t_,t_,t_,t_,t_,f_,f_,f_,f_,f_,f_,f_,f_] HT_ ?_
  refine pn 18 21 #[t_,t_,t_,t_,t_,t_,t_,t_,t_,t_,t_,t_,t_,t_,t_,t_,t_,t_,t_,f_,f_,f_,f_,f_,f_,f_] HT_ ?_
  refine pn 19 22 #[t_,t_,t_,t_,t_,t_,t_,t_,t_,t_,t_,t_,t_,t_,t_,t_,t_,t_,t_,t_,f_,f_,f_,f_,f_,f_] HT_ ?_
  refine pn 20 23 #[t_,t_,t_,t_,t_,t_,t_,t_,t_,t_,t_,t_,t_,t_,t_,t_,t_,t_,t_,t_,t_,f_,f_,f_,f_,f_] HT_ ?_
  refine pn 21 24 #[t_,t_,t_,t_,t_,t_,t_,t_,t_,t_,t_,t_,t_,t_,t_,t_,t_,t_,t_,t_,t_,t_,f_,f_,f_,f_] HT_ ?_
  refine pn 22 25 #[t_,t_,t_,t_,t_,t_,t_,t_,t_,t_,t_,t_,t_,t_,t_,t_,t_,t_,t_,t_,t_,t_,t_,f_,f_,f_] HT_ ?_
  refine pn 23 26 #[t_,t_,t_,t_,t_,t_,t_,t_,t_,t_,t_,t_,t_,t_,t_,t_,t_,t_,t_,t_,t_,t_,t_,t_,f_,f_] HT_ ?_
  refine pu 24 27 #[t_,t_,t_,t_,t_,t_,t_,t_,t_,t_,t_,t_,t_,t_,t_,t_,t_,t_,t_,t_,t_,t_,t_,t_,t_,f_] HT_ ?_
  refine pu 25 2 #[t_,t_,t_,t_,t_,t_,t_,t_,t_,t_,t_,t_,t_,t_,t_,t_,t_,t_,t_,t_,t_,t_,t_,t_,t_,t_] HT_ ?_
  refine done_ (bS_ HT_.out (by kernel_rfl)) ?_
  try go_wp2
  go_ret
  exact ⟨by first | rfl | (simp [*, ah_, ai_] <;> rfl), bz HB.out⟩
 subst c4
 have H1 : ((aZ_.f k ((aT_ l0 0).f1)).bind fun t104 => (if t104 = true then (some ((((aT_ l0 0).f1).length : Int) == (((aT_ l0 0).f0.f3).length : Int))) else (some false))) = some r := by rw [if_pos rfl] at H; exact H
 clear H
 have H := H1
 clear H1
 replace H := Option.bind_eq_some_iff.mp H
 obtain ⟨t104, A50, H⟩ := H
 (try dsimp only at H)
 have A5 := Aside0.mk A50
 clear A50
 by_cases c6 : t104 = true
 rotate_left
 ·replace c6 := Bool.eq_false_iff.mpr c6
  subst c6
  have H1 : (some false) = some r := by rw [if_neg (show ¬ (false = true) by decide)] at H; exact H
  clear H
  have H := H1
  clear H1
  obtain rfl := Option.some.inj H
  go_enter Try.func27, Try.ntmps27
  try go_wp2
  have n0_ := Aside0.mk (bD_ HB.out)
  clear HB
  have HB := n0_
  clear n0_
  have p101 : 0 ≤ (0 : Int) := (by omega)
  have q101 : 0 < (l0.length : Int) := of_decide_eq_true (by assumption)
  obtain ⟨ad101, A101_2, c101_2, A101_3, c101_3, A101_4, c101_4, e101, hx101_0, hx101_1, hx101_2, hx101_3, hx101_4, hl101_2, hi101_2, hl101_3, hi101_3, hl101_4, hi101_4⟩ := at_T40 HR0.out 0 p101 q101
  have hw101_4 := hx101_4
  (try simp only [Int.toNat_zero, Nat.zero_mul, Addr.add_zero'] at hw101_4)
  have hw101_3 := hx101_3
  (try simp only [Int.toNat_zero, Nat.zero_mul, Addr.add_zero'] at hw101_3)
  have hw101_2 := hx101_2
  (try simp only [Int.toNat_zero, Nat.zero_mul, Addr.add_zero'] at hw101_2)
  have hw101_1 := hx101_1
  (try simp only [Int.toNat_zero, Nat.zero_mul, Addr.add_zero'] at hw101_1)
  have hw101_0 := hx101_0
  (try simp only [Int.toNat_zero, Nat.zero_mul, Addr.add_zero'] at hw101_0)
  cases e101
  have qi101 : (0 < l0.length) = True := eq_true (by omega)
  (try simp only [Int.toNat_zero, Nat.zero_mul, Addr.add_zero'] at hx101_0 hx101_1)
  (try simp only [Int.toNat_zero, Nat.zero_mul, Addr.add_zero'] at hx101_2 hx101_3 hx101_4)
  replace hx101_0 := bu_ HB.out hx101_0
  replace hx101_1 := bu_ HB.out hx101_1
  replace hx101_2 := bu_ HB.out hx101_2
  replace hx101_3 := bu_ HB.out hx101_3
  replace hx101_4 := bu_ HB.out hx101_4
  have HR101_2 := Aside0.mk hi101_2
  have HC101_2 := Aside0.mk hl101_2
  clear hi101_2 hl101_2
  have HR101_3 := Aside0.mk hi101_3
  have HC101_3 := Aside0.mk hl101_3
  clear hi101_3 hl101_3
  have HR101_4 := Aside0.mk hi101_4
  have HC101_4 := Aside0.mk hl101_4
  clear hi101_4 hl101_4
  replace p101 := eq_true p101
  replace q101 := eq_true q101
  have p103 : 0 ≤ (0 : Int) := (by omega)
  have q103 : 0 < (l0.length : Int) := of_decide_eq_true (by assumption)
  obtain ⟨ad103, A103_2, c103_2, A103_3, c103_3, A103_4, c103_4, e103, hx103_0, hx103_1, hx103_2, hx103_3, hx103_4, hl103_2, hi103_2, hl103_3, hi103_3, hl103_4, hi103_4⟩ := at_T40 HR0.out 0 p103 q103
  have hw103_4 := hx103_4
  (try simp only [Int.toNat_zero, Nat.zero_mul, Addr.add_zero'] at hw103_4)
  have hw103_3 := hx103_3
  (try simp only [Int.toNat_zero, Nat.zero_mul, Addr.add_zero'] at hw103_3)
  have hw103_2 := hx103_2
  (try simp only [Int.toNat_zero, Nat.zero_mul, Addr.add_zero'] at hw103_2)
  have hw103_1 := hx103_1
  (try simp only [Int.toNat_zero, Nat.zero_mul, Addr.add_zero'] at hw103_1)
  have hw103_0 := hx103_0
  (try simp only [Int.toNat_zero, Nat.zero_mul, Addr.add_zero'] at hw103_0)
  obtain rfl : ad101 = ad103 := (by injection e103)
  have qi103 : (0 < l0.length) = True := eq_true (by omega)
  (try simp only [Int.toNat_zero, Nat.zero_mul, Addr.add_zero'] at hx103_0 hx103_1)
  (try simp only [Int.toNat_zero, Nat.zero_mul, Addr.add_zero'] at hx103_2 hx103_3 hx103_4)
  replace hx103_0 := bu_ HB.out hx103_0
  replace hx103_1 := bu_ HB.out hx103_1
  replace hx103_2 := bu_ HB.out hx103_2
  replace hx103_3 := bu_ HB.out hx103_3
  replace hx103_4 := bu_ HB.out hx103_4
  have HR103_2 := Aside0.mk hi103_2
  have HC103_2 := Aside0.mk hl103_2
  clear hi103_2 hl103_2
  have HR103_3 := Aside0.mk hi103_3
  have HC103_3 := Aside0.mk hl103_3
  clear hi103_3 hl103_3
  have HR103_4 := Aside0.mk hi103_4
  have HC103_4 := Aside0.mk hl103_4
  clear hi103_4 hl103_4
  replace p103 := eq_true p103
  replace q103 := eq_true q103
  have ea_ := Option.some.inj (hw101_2.symm.trans hw103_2)
  injection ea_ with ea_ en_ ec_
  (try subst ea_)
  (try subst ec_)
  (try clear ea_ ec_)
  clear en_
  have ea_ := Option.some.inj (hw101_3.symm.trans hw103_3)
  injection ea_ with ea_ en_ ec_
  (try subst ea_)
  (try subst ec_)
  (try clear ea_ ec_)
  clear en_
  have ea_ := Option.some.inj (hw101_4.symm.trans hw103_4)
  injection ea_ with ea_ en_ ec_
  (try subst ea_)
  (try subst ec_)
  (try clear ea_ ec_)
  clear en_
  refine cl_ (n := 26) (S := fun w' => w'.cell? ad101 = some (.int .i64 ((aT_ l0 0).f0.f0)) ∧ w'.cell? ⟨ad101.block, ad101.off + 1, none⟩ = some (.int .i64 ((aT_ l0 0).f0.f1)) ∧ w'.cell? ⟨ad101.block, ad101.off + 2, none⟩ = some (.slice A101_2 ((aT_ l0 0).f0.f2).length c101_2) ∧ w'.cell? ⟨ad101.block, ad101.off + 3, none⟩ = some (.slice A101_3 ((aT_ l0 0).f0.f3).length c101_3) ∧ w'.cell? ⟨ad101.block, ad101.off + 4, none⟩ = some (.slice A101_4 ((aT_ l0 0).f1).length c101_4) ∧ w'.cell? ad101 = some (.int .i64 ((aT_ l0 0).f0.f0)) ∧ w'.cell? ⟨ad101.block, ad101.off + 1, none⟩ = some (.int .i64 ((aT_ l0 0).f0.f1)) ∧ w'.cell? ⟨ad101.block, ad101.off + 2, none⟩ = some (.slice A101_2 ((aT_ l0 0).f0.f2).length c101_2) ∧ w'.cell? ⟨ad101.block, ad101.off + 3, none⟩ = some (.slice A101_3 ((aT_ l0 0).f0.f3).length c101_3) ∧ w'.cell? ⟨ad101.block, ad101.off + 4, none⟩ = some (.slice A101_4 ((aT_ l0 0).f1).length c101_4)) (ds := []) #[f_,f_,f_,f_,f_,f_,f_,f_,f_,f_,f_,f_,f_,f_,f_,f_,f_,f_,f_,f_,f_,f_,f_,f_,f_,f_] (by kernel_rfl) rfl rfl ⟨(bv_ HB.out hw101_0), (bv_ HB.out hw101_1), (bv_ HB.out hw101_2), (bv_ HB.out hw101_3), (bv_ HB.out hw101_4), (bv_ HB.out hw103_0), (bv_ HB.out hw103_1), (bv_ HB.out hw103_2), (bv_ HB.out hw103_3), (bv_ HB.out hw103_4)⟩ (fun hHeld => ?_); refine bo_ bK_.tab1 bK_.bits1 (fun HT_ HW_ => ?_)
  generalize w.drew = w10 at HB HR101_2 HR101_3 HR101_4 HR103_2 HR103_3 HR103_4 hx101_0 hx101_1 hx101_2 hx101_3 hx101_4 hx103_0 hx103_1 hx103_2 hx103_3 hx103_4 hHeld ⊢
  refine pu 0 3 #[t_,f_,f_,f_,f_,f_,f_,f_,f_,f_,f_,f_,f_,f_,f_,f_,f_,f_,f_,f_,f_,f_,f_,f_,f_,f_] HT_ ?_
  refine pu 1 4 #[t_,t_,f_,f_,f_,f_,f_,f_,f_,f_,f_,f_,f_,f_,f_,f_,f_,f_,f_,f_,f_,f_,f_,f_,f_,f_] HT_ ?_
  refine pu 2 5 #[t_,t_,t_,f_,f_,f_,f_,f_,f_,f_,f_,f_,f_,f_,f_,f_,f_,f_,f_,f_,f_,f_,f_,f_,f_,f_] HT_ ?_
  refine one_ (i := 3) (N := some 6) #[t_,t_,t_,t_,f_,f_,f_,f_,f_,f_,f_,f_,f_,f_,f_,f_,f_,f_,f_,f_,f_,f_,f_,f_,f_,f_] rfl rfl (bh_ HT_.out (by kernel_rfl)) (by decide) (fun K hK => ?_)
  (first | refine goes_ Try.func45 (by kernel_rfl) rfl #[.pointer (some ((ad101.add ((0 : Int).toNat * 5)).add 0))] (by rfl) rfl rfl (by first | rfl | (simp only [lma_, lmc_, lmn_]; first | done | rfl)) ?_ | refine RPW.by_ Try.func45 (by kernel_rfl) rfl #[.pointer (some ((ad101.add ((0 : Int).toNat * 5)).add 0))] (by rfl) rfl rfl rfl (by first | rfl | (simp only [lma_, lmc_, lmn_]; first | done | rfl)) ?_ | refine RPW.bz_ Try.func45 (by kernel_rfl) rfl #[.pointer (some ((ad101.add ((0 : Int).toNat * 5)).add 0))] (by rfl) rfl rfl rfl (by first | rfl | (simp only [lma_, lmc_, lmn_]; first | done | rfl)) ?_)
  with_reducible refine (ay_.calls k _ [(aT_ l0 0).f0] true _ ?side1 A3.out).mono ?_
  (case side1 => exact (RPW.C_fst (RPW.C_iso (RPW.C_elem (ad := ad101) (n := l0.length) (xs := l0) z40 (i := 0) (by first | exact of_eq_true p101 | exact p101 | omega) (by first | exact of_eq_true q101 | exact q101 | omega) (by first | exact (Kd.aF_ HR0.out HB.out) | exact cz (Kd.aF_ HR0.out HB.out))))))
  rintro e w11 ⟨rfl, hb⟩
  refine ⟨_, rfl, ?_⟩
  have n0_ := Aside0.mk (ad_ (bz HB.out) hb)
  clear HB
  have HB := n0_
  clear n0_
  (try clear hb)
  refine hK.out _ _ ⟨(bv_ HB.out hw101_0), (bv_ HB.out hw101_1), (bv_ HB.out hw101_2), (bv_ HB.out hw101_3), (bv_ HB.out hw101_4), (bv_ HB.out hw103_0), (bv_ HB.out hw103_1), (bv_ HB.out hw103_2), (bv_ HB.out hw103_3), (bv_ HB.out hw103_4)⟩ (fun hHeld => ?_)
  clear hK K
  refine norm_ (a' := ?_) ?_ ?_
  rotate_left
  ·show Act.put _ (some 6) _ = _
   simp only [Act.put, lsa_, ls0_, ls1_, i64_w, i32_w]
   rfl
  refine pu 4 7 #[t_,t_,t_,t_,t_,f_,f_,f_,f_,f_,f_,f_,f_,f_,f_,f_,f_,f_,f_,f_,f_,f_,f_,f_,f_,f_] HT_ ?_
  refine pu 5 8 #[t_,t_,t_,t_,t_,t_,f_,f_,f_,f_,f_,f_,f_,f_,f_,f_,f_,f_,f_,f_,f_,f_,f_,f_,f_,f_] HT_ ?_
  refine pu 6 9 #[t_,t_,t_,t_,t_,t_,t_,f_,f_,f_,f_,f_,f_,f_,f_,f_,f_,f_,f_,f_,f_,f_,f_,f_,f_,f_] HT_ ?_
  refine pu 7 10 #[t_,t_,t_,t_,t_,t_,t_,t_,f_,f_,f_,f_,f_,f_,f_,f_,f_,f_,f_,f_,f_,f_,f_,f_,f_,f_] HT_ ?_
  refine tk 8 11 #[t_,t_,t_,t_,t_,t_,t_,t_,t_,f_,f_,f_,f_,f_,f_,f_,f_,f_,f_,f_,f_,f_,f_,f_,f_,f_] HT_ HW_ hHeld ?_ (hv := by rintro w' ⟨s0, s1, s2, s3, s4, s5, s6, s7, s8, s9⟩; go_simp; with_reducible rfl)
  refine one_ (i := 9) (N := some 12) #[t_,t_,t_,t_,t_,t_,t_,t_,t_,t_,f_,f_,f_,f_,f_,f_,f_,f_,f_,f_,f_,f_,f_,f_,f_,f_] rfl rfl (bh_ HT_.out (by kernel_rfl)) (by decide) (fun K hK => ?_)
  (first | refine goes_ Try.func46 (by kernel_rfl) rfl #[.slice A101_4 ((aT_ l0 0).f1).length c101_4] (by rfl) rfl rfl (by first | rfl | (simp only [lma_, lmc_, lmn_]; first | done | rfl)) ?_ | refine RPW.by_ Try.func46 (by kernel_rfl) rfl #[.slice A101_4 ((aT_ l0 0).f1).length c101_4] (by rfl) rfl rfl rfl (by first | rfl | (simp only [lma_, lmc_, lmn_]; first | done | rfl)) ?_ | refine RPW.bz_ Try.func46 (by kernel_rfl) rfl #[.slice A101_4 ((aT_ l0 0).f1).length c101_4] (by rfl) rfl rfl rfl (by first | rfl | (simp only [lma_, lmc_, lmn_]; first | done | rfl)) ?_)
  with_reducible refine (aZ_.calls k _ _ ((aT_ l0 0).f1) false _ ?side1 ?side2 A5.out).mono ?_
  (case side1 => exact cz (Kd.aF_ HR103_4.out HB.out))
  (case side2 => exact HC103_4.out)
  rintro e w12 ⟨rfl, hb⟩
  refine ⟨_, rfl, ?_⟩
  have n0_ := Aside0.mk (ad_ (bz HB.out) hb)
  clear HB
  have HB := n0_
  clear n0_
  (try clear hb)
  refine hK.out _ _ ⟨(bv_ HB.out hw101_0), (bv_ HB.out hw101_1), (bv_ HB.out hw101_2), (bv_ HB.out hw101_3), (bv_ HB.out hw101_4), (bv_ HB.out hw103_0), (bv_ HB.out hw103_1), (bv_ HB.out hw103_2), (bv_ HB.out hw103_3), (bv_ HB.out hw103_4)⟩ (fun hHeld => ?_)
  clear hK K
  refine norm_ (a' := ?_) ?_ ?_
  rotate_left
  ·show Act.put _ (some 12) _ = _
   simp only [Act.put, lsa_, ls0_, ls1_, i64_w, i32_w]
   rfl
  refine pu 10 13 #[t_,t_,t_,t_,t_,t_,t_,t_,t_,t_,t_,f_,f_,f_,f_,f_,f_,f_,f_,f_,f_,f_,f_,f_,f_,f_] HT_ ?_
  refine pu 11 14 #[t_,t_,t_,t_,t_,t_,t_,t_,t_,t_,t_,t_,f_,f_,f_,f_,f_,f_,f_,f_,f_,f_,f_,f_,f_,f_] HT_ ?_
  refine pn 12 15 #[t_,t_,t_,t_,t_,t_,t_,t_,t_,t_,t_,t_,t_,f_,f_,f_,f_,f_,f_,f_,f_,f_,f_,f_,f_,f_] HT_ ?_
  refine pn 13 16 #[t_,t_,t_,t_,t_,t_,t_,t_,t_,t_,t_,t_,t_,t_,f_,f_,f_,f_,f_,f_,f_,f_,f_,f_,f_,f_] HT_ ?_
  refine pn 14 17 #[t_,t_,t_,t_,t_,t_,t_,t_,t_,t_,t_,t_,t_,t_,t_,f_,f_,f_,f_,f_,f_,f_,f_,f_,f_,f_] HT_ ?_
  refine pn 15 18 #[t_,t_,t_,t_,t_,t_,t_,t_,t_,t_,t_,t_,t_,t_,t_,t_,f_,f_,f_,f_,f_,f_,f_,f_,f_,f_] HT_ ?_
  refine pn 16 19 #[t_,t_,t_,t_,t_,t_,t_,t_,t_,t_,t_,t_,t_,t_,t_,t_,t_,f_,f_,f_,f_,f_,f_,f_,f_,f_] HT_ ?_
  refine pn 17 20 #[t_,t_,t_,t_,t_,t_,t_,t_,t_,t_,t_,t_,t_,t_,t_,t_,t_,t_,f_,f_,f_,f_,f_,f_,f_,f_] HT_ ?_
  refine pn 18 21 #[t_,t_,t_,t_,t_,t_,t_,t_,t_,t_,t_,t_,t_,t_,t_,t_,t_,t_,t_,f_,f_,f_,f_,f_,f_,f_] HT_ ?_
  refine pn 19 22 #[t_,t_,t_,t_,t_,t_,t_,t_,t_,t_,t_,t_,t_,t_,t_,t_,t_,t_,t_,t_,f_,f_,f_,f_,f_,f_] HT_ ?_
  refine pn 20 23 #[t_,t_,t_,t_,t_,t_,t_,t_,t_,t_,t_,t_,t_,t_,t_,t_,t_,t_,t_,t_,t_,f_,f_,f_,f_,f_] HT_ ?_
  refine pn 21 24 #[t_,t_,t_,t_,t_,t_,t_,t_,t_,t_,t_,t_,t_,t_,t_,t_,t_,t_,t_,t_,t_,t_,f_,f_,f_,f_] HT_ ?_
  refine pn 22 25 #[t_,t_,t_,t_,t_,t_,t_,t_,t_,t_,t_,t_,t_,t_,t_,t_,t_,t_,t_,t_,t_,t_,t_,f_,f_,f_] HT_ ?_
  refine pn 23 26 #[t_,t_,t_,t_,t_,t_,t_,t_,t_,t_,t_,t_,t_,t_,t_,t_,t_,t_,t_,t_,t_,t_,t_,t_,f_,f_] HT_ ?_
  refine pu 24 27 #[t_,t_,t_,t_,t_,t_,t_,t_,t_,t_,t_,t_,t_,t_,t_,t_,t_,t_,t_,t_,t_,t_,t_,t_,t_,f_] HT_ ?_
  refine pu 25 2 #[t_,t_,t_,t_,t_,t_,t_,t_,t_,t_,t_,t_,t_,t_,t_,t_,t_,t_,t_,t_,t_,t_,t_,t_,t_,t_] HT_ ?_
  refine done_ (bS_ HT_.out (by kernel_rfl)) ?_
  try go_wp2
  go_ret
  exact ⟨by first | rfl | (simp [*, ah_, ai_] <;> rfl), bz HB.out⟩
 subst c6
 have H1 : (some ((((aT_ l0 0).f1).length : Int) == (((aT_ l0 0).f0.f3).length : Int))) = some r := by rw [if_pos rfl] at H; exact H
 clear H
 have H := H1
 clear H1
 obtain rfl := Option.some.inj H
 go_enter Try.func27, Try.ntmps27
 try go_wp2
 have n0_ := Aside0.mk (bD_ HB.out)
 clear HB
 have HB := n0_
 clear n0_
 have p101 : 0 ≤ (0 : Int) := (by omega)
 have q101 : 0 < (l0.length : Int) := of_decide_eq_true (by assumption)
 obtain ⟨ad101, A101_2, c101_2, A101_3, c101_3, A101_4, c101_4, e101, hx101_0, hx101_1, hx101_2, hx101_3, hx101_4, hl101_2, hi101_2, hl101_3, hi101_3, hl101_4, hi101_4⟩ := at_T40 HR0.out 0 p101 q101
 have hw101_4 := hx101_4
 (try simp only [Int.toNat_zero, Nat.zero_mul, Addr.add_zero'] at hw101_4)
 have hw101_3 := hx101_3
 (try simp only [Int.toNat_zero, Nat.zero_mul, Addr.add_zero'] at hw101_3)
 have hw101_2 := hx101_2
 (try simp only [Int.toNat_zero, Nat.zero_mul, Addr.add_zero'] at hw101_2)
 have hw101_1 := hx101_1
 (try simp only [Int.toNat_zero, Nat.zero_mul, Addr.add_zero'] at hw101_1)
 have hw101_0 := hx101_0
 (try simp only [Int.toNat_zero, Nat.zero_mul, Addr.add_zero'] at hw101_0)
 cases e101
 have qi101 : (0 < l0.length) = True := eq_true (by omega)
 (try simp only [Int.toNat_zero, Nat.zero_mul, Addr.add_zero'] at hx101_0 hx101_1)
 (try simp only [Int.toNat_zero, Nat.zero_mul, Addr.add_zero'] at hx101_2 hx101_3 hx101_4)
 replace hx101_0 := bu_ HB.out hx101_0
 replace hx101_1 := bu_ HB.out hx101_1
 replace hx101_2 := bu_ HB.out hx101_2
 replace hx101_3 := bu_ HB.out hx101_3
 replace hx101_4 := bu_ HB.out hx101_4
 have HR101_2 := Aside0.mk hi101_2
 have HC101_2 := Aside0.mk hl101_2
 clear hi101_2 hl101_2
 have HR101_3 := Aside0.mk hi101_3
 have HC101_3 := Aside0.mk hl101_3
 clear hi101_3 hl101_3
 have HR101_4 := Aside0.mk hi101_4
 have HC101_4 := Aside0.mk hl101_4
 clear hi101_4 hl101_4
 replace p101 := eq_true p101
 replace q101 := eq_true q101
 have p103 : 0 ≤ (0 : Int) := (by omega)
 have q103 : 0 < (l0.length : Int) := of_decide_eq_true (by assumption)
 obtain ⟨ad103, A103_2, c103_2, A103_3, c103_3, A103_4, c103_4, e103, hx103_0, hx103_1, hx103_2, hx103_3, hx103_4, hl103_2, hi103_2, hl103_3, hi103_3, hl103_4, hi103_4⟩ := at_T40 HR0.out 0 p103 q103
 have hw103_4 := hx103_4
 (try simp only [Int.toNat_zero, Nat.zero_mul, Addr.add_zero'] at hw103_4)
 have hw103_3 := hx103_3
 (try simp only [Int.toNat_zero, Nat.zero_mul, Addr.add_zero'] at hw103_3)
 have hw103_2 := hx103_2
 (try simp only [Int.toNat_zero, Nat.zero_mul, Addr.add_zero'] at hw103_2)
 have hw103_1 := hx103_1
 (try simp only [Int.toNat_zero, Nat.zero_mul, Addr.add_zero'] at hw103_1)
 have hw103_0 := hx103_0
 (try simp only [Int.toNat_zero, Nat.zero_mul, Addr.add_zero'] at hw103_0)
 obtain rfl : ad101 = ad103 := (by injection e103)
 have qi103 : (0 < l0.length) = True := eq_true (by omega)
 (try simp only [Int.toNat_zero, Nat.zero_mul, Addr.add_zero'] at hx103_0 hx103_1)
 (try simp only [Int.toNat_zero, Nat.zero_mul, Addr.add_zero'] at hx103_2 hx103_3 hx103_4)
 replace hx103_0 := bu_ HB.out hx103_0
 replace hx103_1 := bu_ HB.out hx103_1
 replace hx103_2 := bu_ HB.out hx103_2
 replace hx103_3 := bu_ HB.out hx103_3
 replace hx103_4 := bu_ HB.out hx103_4
 have HR103_2 := Aside0.mk hi103_2
 have HC103_2 := Aside0.mk hl103_2
 clear hi103_2 hl103_2
 have HR103_3 := Aside0.mk hi103_3
 have HC103_3 := Aside0.mk hl103_3
 clear hi103_3 hl103_3
 have HR103_4 := Aside0.mk hi103_4
 have HC103_4 := Aside0.mk hl103_4
 clear hi103_4 hl103_4
 replace p103 := eq_true p103
 replace q103 := eq_true q103
 have ea_ := Option.some.inj (hw101_2.symm.trans hw103_2)
 injection ea_ with ea_ en_ ec_
 (try subst ea_)
 (try subst ec_)
 (try clear ea_ ec_)
 clear en_
 have ea_ := Option.some.inj (hw101_3.symm.trans hw103_3)
 injection ea_ with ea_ en_ ec_
 (try subst ea_)
 (try subst ec_)
 (try clear ea_ ec_)
 clear en_
 have ea_ := Option.some.inj (hw101_4.symm.trans hw103_4)
 injection ea_ with ea_ en_ ec_
 (try subst ea_)
 (try subst ec_)
 (try clear ea_ ec_)
 clear en_
 have p105 : 0 ≤ (0 : Int) := (by omega)
 have q105 : 0 < (l0.length : Int) := of_decide_eq_true (by assumption)
 obtain ⟨ad105, A105_2, c105_2, A105_3, c105_3, A105_4, c105_4, e105, hx105_0, hx105_1, hx105_2, hx105_3, hx105_4, hl105_2, hi105_2, hl105_3, hi105_3, hl105_4, hi105_4⟩ := at_T40 HR0.out 0 p105 q105
 have hw105_4 := hx105_4
 (try simp only [Int.toNat_zero, Nat.zero_mul, Addr.add_zero'] at hw105_4)
 have hw105_3 := hx105_3
 (try simp only [Int.toNat_zero, Nat.zero_mul, Addr.add_zero'] at hw105_3)
 have hw105_2 := hx105_2
 (try simp only [Int.toNat_zero, Nat.zero_mul, Addr.add_zero'] at hw105_2)
 have hw105_1 := hx105_1
 (try simp only [Int.toNat_zero, Nat.zero_mul, Addr.add_zero'] at hw105_1)
 have hw105_0 := hx105_0
 (try simp only [Int.toNat_zero, Nat.zero_mul, Addr.add_zero'] at hw105_0)
 obtain rfl : ad101 = ad105 := (by injection e105)
 have qi105 : (0 < l0.length) = True := eq_true (by omega)
 (try simp only [Int.toNat_zero, Nat.zero_mul, Addr.add_zero'] at hx105_0 hx105_1)
 (try simp only [Int.toNat_zero, Nat.zero_mul, Addr.add_zero'] at hx105_2 hx105_3 hx105_4)
 replace hx105_0 := bu_ HB.out hx105_0
 replace hx105_1 := bu_ HB.out hx105_1
 replace hx105_2 := bu_ HB.out hx105_2
 replace hx105_3 := bu_ HB.out hx105_3
 replace hx105_4 := bu_ HB.out hx105_4
 have HR105_2 := Aside0.mk hi105_2
 have HC105_2 := Aside0.mk hl105_2
 clear hi105_2 hl105_2
 have HR105_3 := Aside0.mk hi105_3
 have HC105_3 := Aside0.mk hl105_3
 clear hi105_3 hl105_3
 have HR105_4 := Aside0.mk hi105_4
 have HC105_4 := Aside0.mk hl105_4
 clear hi105_4 hl105_4
 replace p105 := eq_true p105
 replace q105 := eq_true q105
 have ea_ := Option.some.inj (hw101_2.symm.trans hw105_2)
 injection ea_ with ea_ en_ ec_
 (try subst ea_)
 (try subst ec_)
 (try clear ea_ ec_)
 clear en_
 have ea_ := Option.some.inj (hw101_3.symm.trans hw105_3)
 injection ea_ with ea_ en_ ec_
 (try subst ea_)
 (try subst ec_)
 (try clear ea_ ec_)
 clear en_
 have ea_ := Option.some.inj (hw101_4.symm.trans hw105_4)
 injection ea_ with ea_ en_ ec_
 (try subst ea_)
 (try subst ec_)
 (try clear ea_ ec_)
 clear en_
 have p106 : 0 ≤ (0 : Int) := (by omega)
 have q106 : 0 < (l0.length : Int) := of_decide_eq_true (by assumption)
 obtain ⟨ad106, A106_2, c106_2, A106_3, c106_3, A106_4, c106_4, e106, hx106_0, hx106_1, hx106_2, hx106_3, hx106_4, hl106_2, hi106_2, hl106_3, hi106_3, hl106_4, hi106_4⟩ := at_T40 HR0.out 0 p106 q106
 have hw106_4 := hx106_4
 (try simp only [Int.toNat_zero, Nat.zero_mul, Addr.add_zero'] at hw106_4)
 have hw106_3 := hx106_3
 (try simp only [Int.toNat_zero, Nat.zero_mul, Addr.add_zero'] at hw106_3)
 have hw106_2 := hx106_2
 (try simp only [Int.toNat_zero, Nat.zero_mul, Addr.add_zero'] at hw106_2)
 have hw106_1 := hx106_1
 (try simp only [Int.toNat_zero, Nat.zero_mul, Addr.add_zero'] at hw106_1)
 have hw106_0 := hx106_0
 (try simp only [Int.toNat_zero, Nat.zero_mul, Addr.add_zero'] at hw106_0)
 obtain rfl : ad101 = ad106 := (by injection e106)
 have qi106 : (0 < l0.length) = True := eq_true (by omega)
 (try simp only [Int.toNat_zero, Nat.zero_mul, Addr.add_zero'] at hx106_0 hx106_1)
 (try simp only [Int.toNat_zero, Nat.zero_mul, Addr.add_zero'] at hx106_2 hx106_3 hx106_4)
 replace hx106_0 := bu_ HB.out hx106_0
 replace hx106_1 := bu_ HB.out hx106_1
 replace hx106_2 := bu_ HB.out hx106_2
 replace hx106_3 := bu_ HB.out hx106_3
 replace hx106_4 := bu_ HB.out hx106_4
 have HR106_2 := Aside0.mk hi106_2
 have HC106_2 := Aside0.mk hl106_2
 clear hi106_2 hl106_2
 have HR106_3 := Aside0.mk hi106_3
 have HC106_3 := Aside0.mk hl106_3
 clear hi106_3 hl106_3
 have HR106_4 := Aside0.mk hi106_4
 have HC106_4 := Aside0.mk hl106_4
 clear hi106_4 hl106_4
 replace p106 := eq_true p106
 replace q106 := eq_true q106
 have ea_ := Option.some.inj (hw101_2.symm.trans hw106_2)
 injection ea_ with ea_ en_ ec_
 (try subst ea_)
 (try subst ec_)
 (try clear ea_ ec_)
 clear en_
 have ea_ := Option.some.inj (hw101_3.symm.trans hw106_3)
 injection ea_ with ea_ en_ ec_
 (try subst ea_)
 (try subst ec_)
 (try clear ea_ ec_)
 clear en_
 have ea_ := Option.some.inj (hw101_4.symm.trans hw106_4)
 injection ea_ with ea_ en_ ec_
 (try subst ea_)
 (try subst ec_)
 (try clear ea_ ec_)
 clear en_
 refine cl_ (n := 26) (S := fun w' => w'.cell? ad101 = some (.int .i64 ((aT_ l0 0).f0.f0)) ∧ w'.cell? ⟨ad101.block, ad101.off + 1, none⟩ = some (.int .i64 ((aT_ l0 0).f0.f1)) ∧ w'.cell? ⟨ad101.block, ad101.off + 2, none⟩ = some (.slice A101_2 ((aT_ l0 0).f0.f2).length c101_2) ∧ w'.cell? ⟨ad101.block, ad101.off + 3, none⟩ = some (.slice A101_3 ((aT_ l0 0).f0.f3).length c101_3) ∧ w'.cell? ⟨ad101.block, ad101.off + 4, none⟩ = some (.slice A101_4 ((aT_ l0 0).f1).length c101_4) ∧ w'.cell? ad101 = some (.int .i64 ((aT_ l0 0).f0.f0)) ∧ w'.cell? ⟨ad101.block, ad101.off + 1, none⟩ = some (.int .i64 ((aT_ l0 0).f0.f1)) ∧ w'.cell? ⟨ad101.block, ad101.off + 2, none⟩ = some (.slice A101_2 ((aT_ l0 0).f0.f2).length c101_2) ∧ w'.cell? ⟨ad101.block, ad101.off + 3, none⟩ = some (.slice A101_3 ((aT_ l0 0).f0.f3).length c101_3) ∧ w'.cell? ⟨ad101.block, ad101.off + 4, none⟩ = some (.slice A101_4 ((aT_ l0 0).f1).length c101_4) ∧ w'.cell? ad101 = some (.int .i64 ((aT_ l0 0).f0.f0)) ∧ w'.cell? ⟨ad101.block, ad101.off + 1, none⟩ = some (.int .i64 ((aT_ l0 0).f0.f1)) ∧ w'.cell? ⟨ad101.block, ad101.off + 2, none⟩ = some (.slice A101_2 ((aT_ l0 0).f0.f2).length c101_2) ∧ w'.cell? ⟨ad101.block, ad101.off + 3, none⟩ = some (.slice A101_3 ((aT_ l0 0).f0.f3).length c101_3) ∧ w'.cell? ⟨ad101.block, ad101.off + 4, none⟩ = some (.slice A101_4 ((aT_ l0 0).f1).length c101_4) ∧ w'.cell? ad101 = some (.int .i64 ((aT_ l0 0).f0.f0)) ∧ w'.cell? ⟨ad101.block, ad101.off + 1, none⟩ = some (.int .i64 ((aT_ l0 0).f0.f1)) ∧ w'.cell? ⟨ad101.block, ad101.off + 2, none⟩ = some (.slice A101_2 ((aT_ l0 0).f0.f2).length c101_2) ∧ w'.cell? ⟨ad101.block, ad101.off + 3, none⟩ = some (.slice A101_3 ((aT_ l0 0).f0.f3).length c101_3) ∧ w'.cell? ⟨ad101.block, ad101.off + 4, none⟩ = some (.slice A101_4 ((aT_ l0 0).f1).length c101_4)) (ds := []) #[f_,f_,f_,f_,f_,f_,f_,f_,f_,f_,f_,f_,f_,f_,f_,f_,f_,f_,f_,f_,f_,f_,f_,f_,f_,f_] (by kernel_rfl) rfl rfl ⟨(bv_ HB.out hw101_0), (bv_ HB.out hw101_1), (bv_ HB.out hw101_2), (bv_ HB.out hw101_3), (bv_ HB.out hw101_4), (bv_ HB.out hw103_0), (bv_ HB.out hw103_1), (bv_ HB.out hw103_2), (bv_ HB.out hw103_3), (bv_ HB.out hw103_4), (bv_ HB.out hw105_0), (bv_ HB.out hw105_1), (bv_ HB.out hw105_2), (bv_ HB.out hw105_3), (bv_ HB.out hw105_4), (bv_ HB.out hw106_0), (bv_ HB.out hw106_1), (bv_ HB.out hw106_2), (bv_ HB.out hw106_3), (bv_ HB.out hw106_4)⟩ (fun hHeld => ?_); refine bo_ bK_.tab1 bK_.bits1 (fun HT_ HW_ => ?_)
 generalize w.drew = w7 at HB HR101_2 HR101_3 HR101_4 HR103_2 HR103_3 HR103_4 HR105_2 HR105_3 HR105_4 HR106_2 HR106_3 HR106_4 hx101_0 hx101_1 hx101_2 hx101_3 hx101_4 hx103_0 hx103_1 hx103_2 hx103_3 hx103_4 hx105_0 hx105_1 hx105_2 hx105_3 hx105_4 hx106_0 hx106_1 hx106_2 hx106_3 hx106_4 hHeld ⊢
 refine pu 0 3 #[t_,f_,f_,f_,f_,f_,f_,f_,f_,f_,f_,f_,f_,f_,f_,f_,f_,f_,f_,f_,f_,f_,f_,f_,f_,f_] HT_ ?_
 refine pu 1 4 #[t_,t_,f_,f_,f_,f_,f_,f_,f_,f_,f_,f_,f_,f_,f_,f_,f_,f_,f_,f_,f_,f_,f_,f_,f_,f_] HT_ ?_
 refine pu 2 5 #[t_,t_,t_,f_,f_,f_,f_,f_,f_,f_,f_,f_,f_,f_,f_,f_,f_,f_,f_,f_,f_,f_,f_,f_,f_,f_] HT_ ?_
 refine one_ (i := 3) (N := some 6) #[t_,t_,t_,t_,f_,f_,f_,f_,f_,f_,f_,f_,f_,f_,f_,f_,f_,f_,f_,f_,f_,f_,f_,f_,f_,f_] rfl rfl (bh_ HT_.out (by kernel_rfl)) (by decide) (fun K hK => ?_)
 (first | refine goes_ Try.func45 (by kernel_rfl) rfl #[.pointer (some ((ad101.add ((0 : Int).toNat * 5)).add 0))] (by rfl) rfl rfl (by first | rfl | (simp only [lma_, lmc_, lmn_]; first | done | rfl)) ?_ | refine RPW.by_ Try.func45 (by kernel_rfl) rfl #[.pointer (some ((ad101.add ((0 : Int).toNat * 5)).add 0))] (by rfl) rfl rfl rfl (by first | rfl | (simp only [lma_, lmc_, lmn_]; first | done | rfl)) ?_ | refine RPW.bz_ Try.func45 (by kernel_rfl) rfl #[.pointer (some ((ad101.add ((0 : Int).toNat * 5)).add 0))] (by rfl) rfl rfl rfl (by first | rfl | (simp only [lma_, lmc_, lmn_]; first | done | rfl)) ?_)
 with_reducible refine (ay_.calls k _ [(aT_ l0 0).f0] true _ ?side1 A3.out).mono ?_
 (case side1 => exact (RPW.C_fst (RPW.C_iso (RPW.C_elem (ad := ad101) (n := l0.length) (xs := l0) z40 (i := 0) (by first | exact of_eq_true p101 | exact p101 | omega) (by first | exact of_eq_true q101 | exact q101 | omega) (by first | exact (Kd.aF_ HR0.out HB.out) | exact cz (Kd.aF_ HR0.out HB.out))))))
 rintro e w8 ⟨rfl, hb⟩
 refine ⟨_, rfl, ?_⟩
 have n0_ := Aside0.mk (ad_ (bz HB.out) hb)
 clear HB
 have HB := n0_
 clear n0_
 (try clear hb)
 refine hK.out _ _ ⟨(bv_ HB.out hw101_0), (bv_ HB.out hw101_1), (bv_ HB.out hw101_2), (bv_ HB.out hw101_3), (bv_ HB.out hw101_4), (bv_ HB.out hw103_0), (bv_ HB.out hw103_1), (bv_ HB.out hw103_2), (bv_ HB.out hw103_3), (bv_ HB.out hw103_4), (bv_ HB.out hw105_0), (bv_ HB.out hw105_1), (bv_ HB.out hw105_2), (bv_ HB.out hw105_3), (bv_ HB.out hw105_4), (bv_ HB.out hw106_0), (bv_ HB.out hw106_1), (bv_ HB.out hw106_2), (bv_ HB.out hw106_3), (bv_ HB.out hw106_4)⟩ (fun hHeld => ?_)
 clear hK K
 refine norm_ (a' := ?_) ?_ ?_
 rotate_left
 ·show Act.put _ (some 6) _ = _
  simp only [Act.put, lsa_, ls0_, ls1_, i64_w, i32_w]
  rfl
 refine pu 4 7 #[t_,t_,t_,t_,t_,f_,f_,f_,f_,f_,f_,f_,f_,f_,f_,f_,f_,f_,f_,f_,f_,f_,f_,f_,f_,f_] HT_ ?_
 refine pu 5 8 #[t_,t_,t_,t_,t_,t_,f_,f_,f_,f_,f_,f_,f_,f_,f_,f_,f_,f_,f_,f_,f_,f_,f_,f_,f_,f_] HT_ ?_
 refine pu 6 9 #[t_,t_,t_,t_,t_,t_,t_,f_,f_,f_,f_,f_,f_,f_,f_,f_,f_,f_,f_,f_,f_,f_,f_,f_,f_,f_] HT_ ?_
 refine pu 7 10 #[t_,t_,t_,t_,t_,t_,t_,t_,f_,f_,f_,f_,f_,f_,f_,f_,f_,f_,f_,f_,f_,f_,f_,f_,f_,f_] HT_ ?_
 refine tk 8 11 #[t_,t_,t_,t_,t_,t_,t_,t_,t_,f_,f_,f_,f_,f_,f_,f_,f_,f_,f_,f_,f_,f_,f_,f_,f_,f_] HT_ HW_ hHeld ?_ (hv := by rintro w' ⟨s0, s1, s2, s3, s4, s5, s6, s7, s8, s9, s10, s11, s12, s13, s14, s15, s16, s17, s18, s19⟩; go_simp; with_reducible rfl)
 refine one_ (i := 9) (N := some 12) #[t_,t_,t_,t_,t_,t_,t_,t_,t_,t_,f_,f_,f_,f_,f_,f_,f_,f_,f_,f_,f_,f_,f_,f_,f_,f_] rfl rfl (bh_ HT_.out (by kernel_rfl)) (by decide) (fun K hK => ?_)
 (first | refine goes_ Try.func46 (by kernel_rfl) rfl #[.slice A101_4 ((aT_ l0 0).f1).length c101_4] (by rfl) rfl rfl (by first | rfl | (simp only [lma_, lmc_, lmn_]; first | done | rfl)) ?_ | refine RPW.by_ Try.func46 (by kernel_rfl) rfl #[.slice A101_4 ((aT_ l0 0).f1).length c101_4] (by rfl) rfl rfl rfl (by first | rfl | (simp only [lma_, lmc_, lmn_]; first | done | rfl)) ?_ | refine RPW.bz_ Try.func46 (by kernel_rfl) rfl #[.slice A101_4 ((aT_ l0 0).f1).length c101_4] (by rfl) rfl rfl rfl (by first | rfl | (simp only [lma_, lmc_, lmn_]; first | done | rfl)) ?_)
 with_reducible refine (aZ_.calls k _ _ ((aT_ l0 0).f1) true _ ?side1 ?side2 A5.out).mono ?_
 (case side1 => exact cz (Kd.aF_ HR103_4.out HB.out))
 (case side2 => exact HC103_4.out)
 rintro e w9 ⟨rfl, hb⟩
 refine ⟨_, rfl, ?_⟩
 have n0_ := Aside0.mk (ad_ (bz HB.out) hb)
 clear HB
 have HB := n0_
 clear n0_
 (try clear hb)
 refine hK.out _ _ ⟨(bv_ HB.out hw101_0), (bv_ HB.out hw101_1), (bv_ HB.out hw101_2), (bv_ HB.out hw101_3), (bv_ HB.out hw101_4), (bv_ HB.out hw103_0), (bv_ HB.out hw103_1), (bv_ HB.out hw103_2), (bv_ HB.out hw103_3), (bv_ HB.out hw103_4), (bv_ HB.out hw105_0), (bv_ HB.out hw105_1), (bv_ HB.out hw105_2), (bv_ HB.out hw105_3), (bv_ HB.out hw105_4), (bv_ HB.out hw106_0), (bv_ HB.out hw106_1), (bv_ HB.out hw106_2), (bv_ HB.out hw106_3), (bv_ HB.out hw106_4)⟩ (fun hHeld => ?_)
 clear hK K
 refine norm_ (a' := ?_) ?_ ?_
 rotate_left
 ·show Act.put _ (some 12) _ = _
  simp only [Act.put, lsa_, ls0_, ls1_, i64_w, i32_w]
  rfl
 refine pu 10 13 #[t_,t_,t_,t_,t_,t_,t_,t_,t_,t_,t_,f_,f_,f_,f_,f_,f_,f_,f_,f_,f_,f_,f_,f_,f_,f_] HT_ ?_
 refine pu 11 14 #[t_,t_,t_,t_,t_,t_,t_,t_,t_,t_,t_,t_,f_,f_,f_,f_,f_,f_,f_,f_,f_,f_,f_,f_,f_,f_] HT_ ?_
 refine pu 12 15 #[t_,t_,t_,t_,t_,t_,t_,t_,t_,t_,t_,t_,t_,f_,f_,f_,f_,f_,f_,f_,f_,f_,f_,f_,f_,f_] HT_ ?_
 refine pu 13 16 #[t_,t_,t_,t_,t_,t_,t_,t_,t_,t_,t_,t_,t_,t_,f_,f_,f_,f_,f_,f_,f_,f_,f_,f_,f_,f_] HT_ ?_
 refine pu 14 17 #[t_,t_,t_,t_,t_,t_,t_,t_,t_,t_,t_,t_,t_,t_,t_,f_,f_,f_,f_,f_,f_,f_,f_,f_,f_,f_] HT_ ?_
 refine pu 17 20 #[t_,t_,t_,t_,t_,t_,t_,t_,t_,t_,t_,t_,t_,t_,t_,f_,f_,t_,f_,f_,f_,f_,f_,f_,f_,f_] HT_ ?_
 refine pu 18 21 #[t_,t_,t_,t_,t_,t_,t_,t_,t_,t_,t_,t_,t_,t_,t_,f_,f_,t_,t_,f_,f_,f_,f_,f_,f_,f_] HT_ ?_
 refine pu 19 22 #[t_,t_,t_,t_,t_,t_,t_,t_,t_,t_,t_,t_,t_,t_,t_,f_,f_,t_,t_,t_,f_,f_,f_,f_,f_,f_] HT_ ?_
 refine pu 20 23 #[t_,t_,t_,t_,t_,t_,t_,t_,t_,t_,t_,t_,t_,t_,t_,f_,f_,t_,t_,t_,t_,f_,f_,f_,f_,f_] HT_ ?_
 refine tk 15 18 #[t_,t_,t_,t_,t_,t_,t_,t_,t_,t_,t_,t_,t_,t_,t_,t_,f_,t_,t_,t_,t_,f_,f_,f_,f_,f_] HT_ HW_ hHeld ?_ (hv := by rintro w' ⟨s0, s1, s2, s3, s4, s5, s6, s7, s8, s9, s10, s11, s12, s13, s14, s15, s16, s17, s18, s19⟩; go_simp; with_reducible rfl)
 refine pu 16 19 #[t_,t_,t_,t_,t_,t_,t_,t_,t_,t_,t_,t_,t_,t_,t_,t_,t_,t_,t_,t_,t_,f_,f_,f_,f_,f_] HT_ ?_
 refine tk 21 24 #[t_,t_,t_,t_,t_,t_,t_,t_,t_,t_,t_,t_,t_,t_,t_,t_,t_,t_,t_,t_,t_,t_,f_,f_,f_,f_] HT_ HW_ hHeld ?_ (hv := by rintro w' ⟨s0, s1, s2, s3, s4, s5, s6, s7, s8, s9, s10, s11, s12, s13, s14, s15, s16, s17, s18, s19⟩; go_simp; with_reducible rfl)
 refine pu 22 25 #[t_,t_,t_,t_,t_,t_,t_,t_,t_,t_,t_,t_,t_,t_,t_,t_,t_,t_,t_,t_,t_,t_,t_,f_,f_,f_] HT_ ?_
 refine pu 23 26 #[t_,t_,t_,t_,t_,t_,t_,t_,t_,t_,t_,t_,t_,t_,t_,t_,t_,t_,t_,t_,t_,t_,t_,t_,f_,f_] HT_ ?_
 refine pu 24 27 #[t_,t_,t_,t_,t_,t_,t_,t_,t_,t_,t_,t_,t_,t_,t_,t_,t_,t_,t_,t_,t_,t_,t_,t_,t_,f_] HT_ ?_
 refine pu 25 2 #[t_,t_,t_,t_,t_,t_,t_,t_,t_,t_,t_,t_,t_,t_,t_,t_,t_,t_,t_,t_,t_,t_,t_,t_,t_,t_] HT_ ?_
 refine done_ (bS_ HT_.out (by kernel_rfl)) ?_
 try go_wp2
 go_ret
 exact ⟨by first | rfl | (simp [*, ah_, ai_] <;> rfl), bz HB.out⟩
def dh_.f (l0 : List (S42)) : Option (Bool) := if 0 < (l0.length : Int) then ((ao_.f ((bC_ l0 0).f0) 0 100000).bind fun t102 => (if t102 = true then ((ao_.f ((bC_ l0 0).f1) 0 1000).bind fun t104 => (if t104 = true then ((ao_.f ((bC_ l0 0).f2) 0 1000).bind fun t106 => (if t106 = true then ((ao_.f ((bC_ l0 0).f3) 0 300).bind fun t108 => (if t108 = true then ((ao_.f ((bC_ l0 0).f4) 0 200).bind fun t110 => (some t110)) else (some false))) else (some false))) else (some false))) else (some false))) else (none)
set_option maxHeartbeats 8000000 in
set_option maxRecDepth 100000 in
theorem dh_.calls (A0 : Option Addr) (l0 : List (S42)) (r : Bool) (w : World) (hr0 : Kd.C k42 w A0 l0.length l0) (h : dh_.f l0 = some r) :
  Calls Try.prog 28 #[.pointer A0] w fun e w' => e = .returned (.bool r) ∧ as_ w w' := by
 have HR0 := Aside0.mk hr0
 clear hr0
 have H : (if 0 < (l0.length : Int) then ((ao_.f ((bC_ l0 0).f0) 0 100000).bind fun t102 => (if t102 = true then ((ao_.f ((bC_ l0 0).f1) 0 1000).bind fun t104 => (if t104 = true then ((ao_.f ((bC_ l0 0).f2) 0 1000).bind fun t106 => (if t106 = true then ((ao_.f ((bC_ l0 0).f3) 0 300).bind fun t108 => (if t108 = true then ((ao_.f ((bC_ l0 0).f4) 0 200).bind fun t110 => (some t110)) else (some false))) else (some false))) else (some false))) else (some false))) else (none)) = some r := h
 clear h
 by_cases c2 : 0 < (l0.length : Int)
 rotate_left
 ·rw [if_neg c2] at H
  exact absurd H (by simp)
 rw [if_pos c2] at H
 have c2b0 : decide (0 < (l0.length : Int)) = true := decide_eq_true c2
 have c2b1 : decide (0 < l0.length) = true := decide_eq_true (by omega)
 clear c2
 replace H := Option.bind_eq_some_iff.mp H
 obtain ⟨t102, A30, H⟩ := H
 (try dsimp only at H)
 have A3 := Aside0.mk A30
 clear A30
 by_cases c4 : t102 = true
 rotate_left
 ·replace c4 := Bool.eq_false_iff.mpr c4
  subst c4
  have H1 : (some false) = some r := by rw [if_neg (show ¬ (false = true) by decide)] at H; exact H
  clear H
  have H := H1
  clear H1
  obtain rfl := Option.some.inj H
  have p101 : 0 ≤ (0 : Int) := (by omega)
  have q101 : 0 < (l0.length : Int) := of_decide_eq_true (by assumption)
  obtain ⟨ad101, e101, hx101_0, hx101_1, hx101_2, hx101_3, hx101_4⟩ := dA_ HR0.out 0 p101 q101
  cases e101
  have qi101 : (0 < l0.length) = True := eq_true (by omega)
  (try simp only [Int.toNat_zero, Nat.zero_mul, Addr.add_zero'] at hx101_0 hx101_1)
  (try simp only [Int.toNat_zero, Nat.zero_mul, Addr.add_zero'] at hx101_2 hx101_3 hx101_4)
  replace p101 := eq_true p101
  replace q101 := eq_true q101
  go_enter Try.func28, Try.ntmps28
  go_wp2_with (first | ((with_reducible refine an_ (f := 47) rfl ?_); refine aU_ (some 7) rfl rfl Try.func47 (by kernel_rfl) rfl #[.int .i64 ((bC_ l0 0).f0), .int .i64 0, .int .i64 100000] rfl (by first | rfl | (simp only [lma_, lmc_, lmn_]; first | done | rfl)) ?_; (with_reducible refine (ao_.calls ((bC_ l0 0).f0) 0 100000 false _ A3.out).mono ?_); rintro e w' ⟨rfl, ⟨nd, rfl⟩⟩; refine ⟨_, rfl, ?_⟩))
  go_ret
  exact ⟨by first | rfl | (simp; done) | (simp [*]; done), by repeat (first | exact as_.refl _ | apply as_.step)⟩
 subst c4
 have H1 : ((ao_.f ((bC_ l0 0).f1) 0 1000).bind fun t104 => (if t104 = true then ((ao_.f ((bC_ l0 0).f2) 0 1000).bind fun t106 => (if t106 = true then ((ao_.f ((bC_ l0 0).f3) 0 300).bind fun t108 => (if t108 = true then ((ao_.f ((bC_ l0 0).f4) 0 200).bind fun t110 => (some t110)) else (some false))) else (some false))) else (some false))) = some r := by rw [if_pos rfl] at H; exact H
 clear H
 have H := H1
 clear H1
 replace H := Option.bind_eq_some_iff.mp H
 obtain ⟨t104, A50, H⟩ := H
 (try dsimp only at H)
 have A5 := Aside0.mk A50
 clear A50
 by_cases c6 : t104 = true
 rotate_left
 ·replace c6 := Bool.eq_false_iff.mpr c6
  subst c6
  have H1 : (some false) = some r := by rw [if_neg (show ¬ (false = true) by decide)] at H; exact H
  clear H
  have H := H1
  clear H1
  obtain rfl := Option.some.inj H
  have p101 : 0 ≤ (0 : Int) := (by omega)
  have q101 : 0 < (l0.length : Int) := of_decide_eq_true (by assumption)
  obtain ⟨ad101, e101, hx101_0, hx101_1, hx101_2, hx101_3, hx101_4⟩ := dA_ HR0.out 0 p101 q101
  cases e101
  have qi101 : (0 < l0.length) = True := eq_true (by omega)
  (try simp only [Int.toNat_zero, Nat.zero_mul, Addr.add_zero'] at hx101_0 hx101_1)
  (try simp only [Int.toNat_zero, Nat.zero_mul, Addr.add_zero'] at hx101_2 hx101_3 hx101_4)
  replace p101 := eq_true p101
  replace q101 := eq_true q101
  go_enter Try.func28, Try.ntmps28
  go_wp2_with (first | ((with_reducible refine an_ (f := 47) rfl ?_); refine aU_ (some 7) rfl rfl Try.func47 (by kernel_rfl) rfl #[.int .i64 ((bC_ l0 0).f0), .int .i64 0, .int .i64 100000] rfl (by first | rfl | (simp only [lma_, lmc_, lmn_]; first | done | rfl)) ?_; (with_reducible refine (ao_.calls ((bC_ l0 0).f0) 0 100000 true _ A3.out).mono ?_); rintro e w' ⟨rfl, ⟨nd, rfl⟩⟩; refine ⟨_, rfl, ?_⟩; have p103 : 0 ≤ (0 : Int) := (by omega); have q103 : 0 < (l0.length : Int) := of_decide_eq_true (by assumption); obtain ⟨ad103, e103, hx103_0, hx103_1, hx103_2, hx103_3, hx103_4⟩ := dA_ HR0.out 0 p103 q103; obtain rfl : ad101 = ad103 := (by injection e103); have qi103 : (0 < l0.length) = True := eq_true (by omega); (try simp only [Int.toNat_zero, Nat.zero_mul, Addr.add_zero'] at hx103_0 hx103_1); (try simp only [Int.toNat_zero, Nat.zero_mul, Addr.add_zero'] at hx103_2 hx103_3 hx103_4); replace p103 := eq_true p103; replace q103 := eq_true q103) | (go_at_call 47; (with_reducible refine (ao_.calls ((bC_ l0 0).f1) 0 1000 false _ A5.out).mono ?_); rintro e w' ⟨rfl, ⟨nd, rfl⟩⟩))
  go_ret
  exact ⟨by first | rfl | (simp; done) | (simp [*]; done), by repeat (first | exact as_.refl _ | apply as_.step)⟩
 subst c6
 have H1 : ((ao_.f ((bC_ l0 0).f2) 0 1000).bind fun t106 => (if t106 = true then ((ao_.f ((bC_ l0 0).f3) 0 300).bind fun t108 => (if t108 = true then ((ao_.f ((bC_ l0 0).f4) 0 200).bind fun t110 => (some t110)) else (some false))) else (some false))) = some r := by rw [if_pos rfl] at H; exact H
 clear H
 have H := H1
 clear H1
 replace H := Option.bind_eq_some_iff.mp H
 obtain ⟨t106, A70, H⟩ := H
 (try dsimp only at H)
 have A7 := Aside0.mk A70
 clear A70
 by_cases c8 : t106 = true
 rotate_left
 ·replace c8 := Bool.eq_false_iff.mpr c8
  subst c8
  have H1 : (some false) = some r := by rw [if_neg (show ¬ (false = true) by decide)] at H; exact H
  clear H
  have H := H1
  clear H1
  obtain rfl := Option.some.inj H
  have p101 : 0 ≤ (0 : Int) := (by omega)
  have q101 : 0 < (l0.length : Int) := of_decide_eq_true (by assumption)
  obtain ⟨ad101, e101, hx101_0, hx101_1, hx101_2, hx101_3, hx101_4⟩ := dA_ HR0.out 0 p101 q101
  cases e101
  have qi101 : (0 < l0.length) = True := eq_true (by omega)
  (try simp only [Int.toNat_zero, Nat.zero_mul, Addr.add_zero'] at hx101_0 hx101_1)
  (try simp only [Int.toNat_zero, Nat.zero_mul, Addr.add_zero'] at hx101_2 hx101_3 hx101_4)
  replace p101 := eq_true p101
  replace q101 := eq_true q101
  go_enter Try.func28, Try.ntmps28
  go_wp2_with (first | ((with_reducible refine an_ (f := 47) rfl ?_); refine aU_ (some 7) rfl rfl Try.func47 (by kernel_rfl) rfl #[.int .i64 ((bC_ l0 0).f0), .int .i64 0, .int .i64 100000] rfl (by first | rfl | (simp only [lma_, lmc_, lmn_]; first | done | rfl)) ?_; (with_reducible refine (ao_.calls ((bC_ l0 0).f0) 0 100000 true _ A3.out).mono ?_); rintro e w' ⟨rfl, ⟨nd, rfl⟩⟩; refine ⟨_, rfl, ?_⟩; have p103 : 0 ≤ (0 : Int) := (by omega); have q103 : 0 < (l0.length : Int) := of_decide_eq_true (by assumption); obtain ⟨ad103, e103, hx103_0, hx103_1, hx103_2, hx103_3, hx103_4⟩ := dA_ HR0.out 0 p103 q103; obtain rfl : ad101 = ad103 := (by injection e103); have qi103 : (0 < l0.length) = True := eq_true (by omega); (try simp only [Int.toNat_zero, Nat.zero_mul, Addr.add_zero'] at hx103_0 hx103_1); (try simp only [Int.toNat_zero, Nat.zero_mul, Addr.add_zero'] at hx103_2 hx103_3 hx103_4); replace p103 := eq_true p103; replace q103 := eq_true q103) | (go_at_call 47; (with_reducible refine (ao_.calls ((bC_ l0 0).f1) 0 1000 true _ A5.out).mono ?_); rintro e w' ⟨rfl, ⟨nd, rfl⟩⟩; have p105 : 0 ≤ (0 : Int) := (by omega); have q105 : 0 < (l0.length : Int) := of_decide_eq_true (by assumption); obtain ⟨ad105, e105, hx105_0, hx105_1, hx105_2, hx105_3, hx105_4⟩ := dA_ HR0.out 0 p105 q105; obtain rfl : ad101 = ad105 := (by injection e105); have qi105 : (0 < l0.length) = True := eq_true (by omega); (try simp only [Int.toNat_zero, Nat.zero_mul, Addr.add_zero'] at hx105_0 hx105_1); (try simp only [Int.toNat_zero, Nat.zero_mul, Addr.add_zero'] at hx105_2 hx105_3 hx105_4); replace p105 := eq_true p105; replace q105 := eq_true q105) | (go_at_call 47; (with_reducible refine (ao_.calls ((bC_ l0 0).f2) 0 1000 false _ A7.out).mono ?_); rintro e w' ⟨rfl, ⟨nd, rfl⟩⟩))
  go_ret
  exact ⟨by first | rfl | (simp; done) | (simp [*]; done), by repeat (first | exact as_.refl _ | apply as_.step)⟩
 subst c8
 have H1 : ((ao_.f ((bC_ l0 0).f3) 0 300).bind fun t108 => (if t108 = true then ((ao_.f ((bC_ l0 0).f4) 0 200).bind fun t110 => (some t110)) else (some false))) = some r := by rw [if_pos rfl] at H; exact H
 clear H
 have H := H1
 clear H1
 replace H := Option.bind_eq_some_iff.mp H
 obtain ⟨t108, A90, H⟩ := H
 (try dsimp only at H)
 have A9 := Aside0.mk A90
 clear A90
 by_cases c10 : t108 = true
 rotate_left
 ·replace c10 := Bool.eq_false_iff.mpr c10
  subst c10
  have H1 : (some false) = some r := by rw [if_neg (show ¬ (false = true) by decide)] at H; exact H
  clear H
  have H := H1
  clear H1
  obtain rfl := Option.some.inj H
  have p101 : 0 ≤ (0 : Int) := (by omega)
  have q101 : 0 < (l0.length : Int) := of_decide_eq_true (by assumption)
  obtain ⟨ad101, e101, hx101_0, hx101_1, hx101_2, hx101_3, hx101_4⟩ := dA_ HR0.out 0 p101 q101
  cases e101
  have qi101 : (0 < l0.length) = True := eq_true (by omega)
  (try simp only [Int.toNat_zero, Nat.zero_mul, Addr.add_zero'] at hx101_0 hx101_1)
  (try simp only [Int.toNat_zero, Nat.zero_mul, Addr.add_zero'] at hx101_2 hx101_3 hx101_4)
  replace p101 := eq_true p101
  replace q101 := eq_true q101
  go_enter Try.func28, Try.ntmps28
  go_wp2_with (first | ((with_reducible refine an_ (f := 47) rfl ?_); refine aU_ (some 7) rfl rfl Try.func47 (by kernel_rfl) rfl #[.int .i64 ((bC_ l0 0).f0), .int .i64 0, .int .i64 100000] rfl (by first | rfl | (simp only [lma_, lmc_, lmn_]; first | done | rfl)) ?_; (with_reducible refine (ao_.calls ((bC_ l0 0).f0) 0 100000 true _ A3.out).mono ?_); rintro e w' ⟨rfl, ⟨nd, rfl⟩⟩; refine ⟨_, rfl, ?_⟩; have p103 : 0 ≤ (0 : Int) := (by omega); have q103 : 0 < (l0.length : Int) := of_decide_eq_true (by assumption); obtain ⟨ad103, e103, hx103_0, hx103_1, hx103_2, hx103_3, hx103_4⟩ := dA_ HR0.out 0 p103 q103; obtain rfl : ad101 = ad103 := (by injection e103); have qi103 : (0 < l0.length) = True := eq_true (by omega); (try simp only [Int.toNat_zero, Nat.zero_mul, Addr.add_zero'] at hx103_0 hx103_1); (try simp only [Int.toNat_zero, Nat.zero_mul, Addr.add_zero'] at hx103_2 hx103_3 hx103_4); replace p103 := eq_true p103; replace q103 := eq_true q103) | (go_at_call 47; (with_reducible refine (ao_.calls ((bC_ l0 0).f1) 0 1000 true _ A5.out).mono ?_); rintro e w' ⟨rfl, ⟨nd, rfl⟩⟩; have p105 : 0 ≤ (0 : Int) := (by omega); have q105 : 0 < (l0.length : Int) := of_decide_eq_true (by assumption); obtain ⟨ad105, e105, hx105_0, hx105_1, hx105_2, hx105_3, hx105_4⟩ := dA_ HR0.out 0 p105 q105; obtain rfl : ad101 = ad105 := (by injection e105); have qi105 : (0 < l0.length) = True := eq_true (by omega); (try simp only [Int.toNat_zero, Nat.zero_mul, Addr.add_zero'] at hx105_0 hx105_1); (try simp only [Int.toNat_zero, Nat.zero_mul, Addr.add_zero'] at hx105_2 hx105_3 hx105_4); replace p105 := eq_true p105; replace q105 := eq_true q105) | (go_at_call 47; (with_reducible refine (ao_.calls ((bC_ l0 0).f2) 0 1000 true _ A7.out).mono ?_); rintro e w' ⟨rfl, ⟨nd, rfl⟩⟩; have p107 : 0 ≤ (0 : Int) := (by omega); have q107 : 0 < (l0.length : Int) := of_decide_eq_true (by assumption); obtain ⟨ad107, e107, hx107_0, hx107_1, hx107_2, hx107_3, hx107_4⟩ := dA_ HR0.out 0 p107 q107; obtain rfl : ad101 = ad107 := (by injection e107); have qi107 : (0 < l0.length) = True := eq_true (by omega); (try simp only [Int.toNat_zero, Nat.zero_mul, Addr.add_zero'] at hx107_0 hx107_1); (try simp only [Int.toNat_zero, Nat.zero_mul, Addr.add_zero'] at hx107_2 hx107_3 hx107_4); replace p107 := eq_true p107; replace q107 := eq_true q107) | (go_at_call 47; (with_reducible refine (ao_.calls ((bC_ l0 0).f3) 0 300 false _ A9.out).mono ?_); rintro e w' ⟨rfl, ⟨nd, rfl⟩⟩))
  go_ret
  exact ⟨by first | rfl | (simp; done) | (simp [*]; done), by repeat (first | exact as_.refl _ | apply as_.step)⟩
 subst c10
 have H1 : ((ao_.f ((bC_ l0 0).f4) 0 200).bind fun t110 => (some t110)) = some r := by rw [if_pos rfl] at H; exact H
 clear H
 have H := H1
 clear H1
 replace H := Option.bind_eq_some_iff.mp H
 obtain ⟨t110, A110, H⟩ := H
 (try dsimp only at H)
 have A11 := Aside0.mk A110
 clear A110
 obtain rfl := Option.some.inj H
 have p101 : 0 ≤ (0 : Int) := (by omega)
 have q101 : 0 < (l0.length : Int) := of_decide_eq_true (by assumption)
 obtain ⟨ad101, e101, hx101_0, hx101_1, hx101_2, hx101_3, hx101_4⟩ := dA_ HR0.out 0 p101 q101
 cases e101
 have qi101 : (0 < l0.length) = True := eq_true (by omega)
 (try simp only [Int.toNat_zero, Nat.zero_mul, Addr.add_zero'] at hx101_0 hx101_1)
 (try simp only [Int.toNat_zero, Nat.zero_mul, Addr.add_zero'] at hx101_2 hx101_3 hx101_4)
 replace p101 := eq_true p101
 replace q101 := eq_true q101
 go_enter Try.func28, Try.ntmps28
 go_wp2_with (first | ((with_reducible refine an_ (f := 47) rfl ?_); refine aU_ (some 7) rfl rfl Try.func47 (by kernel_rfl) rfl #[.int .i64 ((bC_ l0 0).f0), .int .i64 0, .int .i64 100000] rfl (by first | rfl | (simp only [lma_, lmc_, lmn_]; first | done | rfl)) ?_; (with_reducible refine (ao_.calls ((bC_ l0 0).f0) 0 100000 true _ A3.out).mono ?_); rintro e w' ⟨rfl, ⟨nd, rfl⟩⟩; refine ⟨_, rfl, ?_⟩; have p103 : 0 ≤ (0 : Int) := (by omega); have q103 : 0 < (l0.length : Int) := of_decide_eq_true (by assumption); obtain ⟨ad103, e103, hx103_0, hx103_1, hx103_2, hx103_3, hx103_4⟩ := dA_ HR0.out 0 p103 q103; obtain rfl : ad101 = ad103 := (by injection e103); have qi103 : (0 < l0.length) = True := eq_true (by omega); (try simp only [Int.toNat_zero, Nat.zero_mul, Addr.add_zero'] at hx103_0 hx103_1); (try simp only [Int.toNat_zero, Nat.zero_mul, Addr.add_zero'] at hx103_2 hx103_3 hx103_4); replace p103 := eq_true p103; replace q103 := eq_true q103) | (go_at_call 47; (with_reducible refine (ao_.calls ((bC_ l0 0).f1) 0 1000 true _ A5.out).mono ?_); rintro e w' ⟨rfl, ⟨nd, rfl⟩⟩; have p105 : 0 ≤ (0 : Int) := (by omega); have q105 : 0 < (l0.length : Int) := of_decide_eq_true (by assumption); obtain ⟨ad105, e105, hx105_0, hx105_1, hx105_2, hx105_3, hx105_4⟩ := dA_ HR0.out 0 p105 q105; obtain rfl : ad101 = ad105 := (by injection e105); have qi105 : (0 < l0.length) = True := eq_true (by omega); (try simp only [Int.toNat_zero, Nat.zero_mul, Addr.add_zero'] at hx105_0 hx105_1); (try simp only [Int.toNat_zero, Nat.zero_mul, Addr.add_zero'] at hx105_2 hx105_3 hx105_4); replace p105 := eq_true p105; replace q105 := eq_true q105) | (go_at_call 47; (with_reducible refine (ao_.calls ((bC_ l0 0).f2) 0 1000 true _ A7.out).mono ?_); rintro e w' ⟨rfl, ⟨nd, rfl⟩⟩; have p107 : 0 ≤ (0 : Int) := (by omega); have q107 : 0 < (l0.length : Int) := of_decide_eq_true (by assumption); obtain ⟨ad107, e107, hx107_0, hx107_1, hx107_2, hx107_3, hx107_4⟩ := dA_ HR0.out 0 p107 q107; obtain rfl : ad101 = ad107 := (by injection e107); have qi107 : (0 < l0.length) = True := eq_true (by omega); (try simp only [Int.toNat_zero, Nat.zero_mul, Addr.add_zero'] at hx107_0 hx107_1); (try simp only [Int.toNat_zero, Nat.zero_mul, Addr.add_zero'] at hx107_2 hx107_3 hx107_4); replace p107 := eq_true p107; replace q107 := eq_true q107) | (go_at_call 47; (with_reducible refine (ao_.calls ((bC_ l0 0).f3) 0 300 true _ A9.out).mono ?_); rintro e w' ⟨rfl, ⟨nd, rfl⟩⟩; have p109 : 0 ≤ (0 : Int) := (by omega); have q109 : 0 < (l0.length : Int) := of_decide_eq_true (by assumption); obtain ⟨ad109, e109, hx109_0, hx109_1, hx109_2, hx109_3, hx109_4⟩ := dA_ HR0.out 0 p109 q109; obtain rfl : ad101 = ad109 := (by injection e109); have qi109 : (0 < l0.length) = True := eq_true (by omega); (try simp only [Int.toNat_zero, Nat.zero_mul, Addr.add_zero'] at hx109_0 hx109_1); (try simp only [Int.toNat_zero, Nat.zero_mul, Addr.add_zero'] at hx109_2 hx109_3 hx109_4); replace p109 := eq_true p109; replace q109 := eq_true q109) | (go_at_call 47; (with_reducible refine (ao_.calls ((bC_ l0 0).f4) 0 200 t110 _ A11.out).mono ?_); rintro e w' ⟨rfl, ⟨nd, rfl⟩⟩))
 go_ret
 exact ⟨by first | rfl | (simp; done) | (simp [*]; done), by repeat (first | exact as_.refl _ | apply as_.step)⟩
def df_.f (k : Nat) (l0 : List (S40)) (l1 : List (S42)) : Option (Int) := (bK_.f k l0).bind fun t101 => (if t101 = true then ((dh_.f l1).bind fun t102 => (if t102 = true then (some 0) else (some 1))) else (some 1))
set_option maxHeartbeats 8000000 in
set_option maxRecDepth 100000 in
theorem df_.calls (k : Nat) (A0 : Option Addr) (l0 : List (S40)) (A1 : Option Addr) (l1 : List (S42)) (r : Int) (w : World) (hr0 : Kd.C k40 w A0 l0.length l0) (hr1 : Kd.C k42 w A1 l1.length l1) (h : df_.f k l0 l1 = some r) :
  Calls Try.prog 12 #[.pointer A0, .pointer A1] w fun e w' => e = .returned (.int .i64 r) ∧ Below w.heap.size w w' := by
 have HR0 := Aside0.mk hr0
 clear hr0
 have HR1 := Aside0.mk hr1
 clear hr1
 have HB := Aside0.mk (Below.refl w.heap.size w)
 have H : ((bK_.f k l0).bind fun t101 => (if t101 = true then ((dh_.f l1).bind fun t102 => (if t102 = true then (some 0) else (some 1))) else (some 1))) = some r := h
 clear h
 replace H := Option.bind_eq_some_iff.mp H
 obtain ⟨t101, A30, H⟩ := H
 (try dsimp only at H)
 have A3 := Aside0.mk A30
 clear A30
 by_cases c4 : t101 = true
 rotate_left
 ·replace c4 := Bool.eq_false_iff.mpr c4
  subst c4
  have H1 : (some 1) = some r := by rw [if_neg (show ¬ (false = true) by decide)] at H; exact H
  clear H
  have H := H1
  clear H1
  obtain rfl := Option.some.inj H
  go_enter Try.func12, Try.ntmps12
  go_wp2_with (first | ((with_reducible refine an_ (f := 27) rfl ?_); refine aU_ (some 6) rfl rfl Try.func27 (by kernel_rfl) rfl #[.pointer A0] rfl (by first | rfl | (simp only [lma_, lmc_, lmn_]; first | done | rfl)) ?_; (with_reducible refine (bK_.calls k _ l0 false _ ?side1 A3.out).mono ?_); (case side1 => exact cz HR0.out); rintro e w9 ⟨rfl, hb⟩; refine ⟨_, rfl, ?_⟩; replace HB := Aside0.mk (ad_ (bz HB.out) hb); (try clear hb)))
  go_ret
  exact ⟨by first | rfl | (simp [*, ah_, ai_] <;> rfl), bz HB.out⟩
 subst c4
 have H1 : ((dh_.f l1).bind fun t102 => (if t102 = true then (some 0) else (some 1))) = some r := by rw [if_pos rfl] at H; exact H
 clear H
 have H := H1
 clear H1
 replace H := Option.bind_eq_some_iff.mp H
 obtain ⟨t102, A50, H⟩ := H
 (try dsimp only at H)
 have A5 := Aside0.mk A50
 clear A50
 have HC6 := Aside0.mk H
 clear H
 go_enter Try.func12, Try.ntmps12
 go_upto_if 12 with (first | ((with_reducible refine an_ (f := 27) rfl ?_); refine aU_ (some 6) rfl rfl Try.func27 (by kernel_rfl) rfl #[.pointer A0] rfl (by first | rfl | (simp only [lma_, lmc_, lmn_]; first | done | rfl)) ?_; (with_reducible refine (bK_.calls k _ l0 true _ ?side1 A3.out).mono ?_); (case side1 => exact cz HR0.out); rintro e w7 ⟨rfl, hb⟩; refine ⟨_, rfl, ?_⟩; replace HB := Aside0.mk (ad_ (bz HB.out) hb); (try clear hb)) | (go_at_call 28; (with_reducible refine (dh_.calls _ l1 t102 _ ?side1 A5.out).mono ?_); (case side1 => exact cz (Kd.aF_ HR1.out HB.out)); rintro e w' ⟨rfl, ⟨nd, rfl⟩⟩; (try (rw [cR_ w7]; generalize hq_ : World.drewN w7 _ = w7; replace HB := Aside0.mk (rqH hq_ HB.out); clear hq_))))
 (try simp only [Act.put, lsa_, ls0_, ls1_])
 have H := HC6.out
 clear HC6
 by_cases c8 : t102 = true
 rotate_left
 ·replace c8 := Bool.eq_false_iff.mpr c8
  subst c8
  have H1 : (some 1) = some r := by rw [if_neg (show ¬ (false = true) by decide)] at H; exact H
  clear H
  have H := H1
  clear H1
  obtain rfl := Option.some.inj H
  go_wp2
  go_ret
  exact ⟨by first | rfl | (simp [*, ah_, ai_] <;> rfl), bz HB.out⟩
 subst c8
 have H1 : (some 0) = some r := by rw [if_pos rfl] at H; exact H
 clear H
 have H := H1
 clear H1
 obtain rfl := Option.some.inj H
 go_wp2
 go_ret
 exact ⟨by first | rfl | (simp [*, ah_, ai_] <;> rfl), bz HB.out⟩
def cB_.f (k : Nat) (l0 : List (S37)) (a1 : Int) : Option ((List (S81))) := if 0 < (l0.length : Int) then (if 0 ≤ a1 then (if a1 < (((ar_ l0 0).f3).length : Int) then ((aG_.f k l0 ((aA_ ((ar_ l0 0).f3) a1).f1)).bind fun bt103 => (some bt103.1)) else (none)) else (none)) else (none)
set_option maxHeartbeats 8000000 in
set_option maxRecDepth 100000 in
theorem cB_.calls (k : Nat) (A0 : Option Addr) (l0 : List (S37)) (a1 : Int) (r : List (S81)) (w : World) (hr0 : Kd.C k37 w A0 l0.length l0) (h : cB_.f k l0 a1 = some r) :
  Calls Try.prog 30 #[.pointer A0, .int .i64 a1] w fun e w' => ∃ v0_ : Value, e = .returned (v0_) ∧ Kd.R k81 81 w' w.heap.size (fun _ => True) v0_ r ∧ Below w.heap.size w w' := by
 have HR0 := Aside0.mk hr0
 clear hr0
 have HB := Aside0.mk (Below.refl w.heap.size w)
 have H : (if 0 < (l0.length : Int) then (if 0 ≤ a1 then (if a1 < (((ar_ l0 0).f3).length : Int) then ((aG_.f k l0 ((aA_ ((ar_ l0 0).f3) a1).f1)).bind fun bt103 => (some bt103.1)) else (none)) else (none)) else (none)) = some r := h
 clear h
 by_cases c3 : 0 < (l0.length : Int)
 rotate_left
 ·rw [if_neg c3] at H
  exact absurd H (by simp)
 rw [if_pos c3] at H
 have c3b0 : decide (0 < (l0.length : Int)) = true := decide_eq_true c3
 have c3b1 : decide (0 < l0.length) = true := decide_eq_true (by omega)
 clear c3
 by_cases c4 : 0 ≤ a1
 rotate_left
 ·rw [if_neg c4] at H
  exact absurd H (by simp)
 rw [if_pos c4] at H
 have c4b0 : decide (0 ≤ a1) = true := decide_eq_true c4
 clear c4
 by_cases c5 : a1 < (((ar_ l0 0).f3).length : Int)
 rotate_left
 ·rw [if_neg c5] at H
  exact absurd H (by simp)
 rw [if_pos c5] at H
 have c5b0 : decide (a1 < (((ar_ l0 0).f3).length : Int)) = true := decide_eq_true c5
 clear c5
 replace H := Option.bind_eq_some_iff.mp H
 obtain ⟨⟨t103, t104⟩, A60, H⟩ := H
 (try dsimp only at H)
 have A6 := Aside0.mk A60
 clear A60
 obtain rfl := Option.some.inj H
 have p101 : 0 ≤ (0 : Int) := (by omega)
 have q101 : 0 < (l0.length : Int) := of_decide_eq_true (by assumption)
 obtain ⟨ad101, A101_2, c101_2, A101_3, c101_3, e101, hx101_0, hx101_1, hx101_2, hx101_3, hl101_2, hi101_2, hl101_3, hi101_3⟩ := cc_ HR0.out 0 p101 q101
 cases e101
 have qi101 : (0 < l0.length) = True := eq_true (by omega)
 (try simp only [Int.toNat_zero, Nat.zero_mul, Addr.add_zero'] at hx101_0 hx101_1)
 (try simp only [Int.toNat_zero, Nat.zero_mul, Addr.add_zero'] at hx101_2 hx101_3)
 have HR101_2 := Aside0.mk hi101_2
 have HC101_2 := Aside0.mk hl101_2
 clear hi101_2 hl101_2
 have HR101_3 := Aside0.mk hi101_3
 have HC101_3 := Aside0.mk hl101_3
 clear hi101_3 hl101_3
 replace p101 := eq_true p101
 replace q101 := eq_true q101
 have p102 : 0 ≤ (a1 : Int) := of_decide_eq_true (by assumption)
 have q102 : a1 < (((ar_ l0 0).f3).length : Int) := of_decide_eq_true (by assumption)
 obtain ⟨ad102, A102_1, c102_1, e102, hx102_0, hx102_1, hl102_1, hi102_1⟩ := at_T85 HR101_3.out a1 p102 q102
 cases e102
 have HR102_1 := Aside0.mk hi102_1
 have HC102_1 := Aside0.mk hl102_1
 clear hi102_1 hl102_1
 replace p102 := eq_true p102
 replace q102 := eq_true q102
 go_enter Try.func30, Try.ntmps30
 go_wp2_with (first | ((with_reducible refine an_ (f := 48) rfl ?_); refine aU_ (some 17) rfl rfl Try.func48 (by kernel_rfl) rfl #[.pointer (some ad101), .slice A102_1 ((aA_ ((ar_ l0 0).f3) a1).f1).length c102_1] rfl (by first | rfl | (simp only [lma_, lmc_, lmn_]; first | done | rfl)) ?_; (with_reducible refine (aG_.calls k _ l0 _ _ ((aA_ ((ar_ l0 0).f3) a1).f1) t103 t104 _ ?side1 ?side2 ?side3 A6.out).mono ?_); (case side1 => exact cz HR0.out); (case side2 => exact cz HR102_1.out); (case side3 => exact HC102_1.out); rintro e w7 ⟨v105, rfl, ho0, hb⟩; refine ⟨_, rfl, ?_⟩; have HO106 := Aside0.mk (Kd.bq_ ho0 (ae_ (bz HB.out))); replace HB := Aside0.mk (ad_ (bz HB.out) hb); (try clear hb); (try clear ho0)))
 go_ret
 exact ⟨_, by first | rfl | (simp [*, ah_, ai_] <;> rfl), rz HO106.out, bz HB.out⟩
def cZ_.f  : Option (List Int) := some (([30, 25, 28, 45, 160, 60, 32, 35, 120, 70] : List Int))
set_option maxHeartbeats 8000000 in
set_option maxRecDepth 100000 in
theorem cZ_.calls  (r : List Int) (w : World) (h : cZ_.f  = some r) :
  Calls Try.prog 31 #[] w fun e w' => ∃ v0_ : Value, e = .returned (v0_) ∧ Kd.R (Kd.int .i64) 2 w' w.heap.size (fun _ => True) v0_ r ∧ Below w.heap.size w w' := by
 have HB := Aside0.mk (Below.refl w.heap.size w)
 have H : (some (([30, 25, 28, 45, 160, 60, 32, 35, 120, 70] : List Int))) = some r := h
 clear h
 obtain ⟨y101, hy101⟩ : ∃ y_ : List Int, y_ = (([30, 25, 28, 45, 160, 60, 32, 35, 120, 70] : List Int)) := ⟨_, rfl⟩
 replace H : (some y101) = some r := by first | (rw [hy101]; with_reducible exact H) | (have H2_ := (Option.bind_some _ _).symm.trans H; rw [hy101]; with_reducible exact H2_) | (have H2_ := (Option.bind_some _ _).symm.trans H; with_reducible exact H2_) | with_reducible exact H | (rw [hy101]; exact H) | exact H
 have Ny101 := Aside0.mk hy101
 clear hy101
 obtain rfl := Option.some.inj H
 go_enter Try.func31, Try.ntmps31
 go_wp2_with (first | ((with_reducible refine al_ (N := 1) rfl ?_); refine Kd.R_lit (Kd.int .i64) _ 2 ?hg (N := 1) ?hd (xs := ([30, 25, 28, 45, 160, 60, 32, 35, 120, 70] : List Int)) (inner := [.int .i64 30, .int .i64 25, .int .i64 28, .int .i64 45, .int .i64 160, .int .i64 60, .int .i64 32, .int .i64 35, .int .i64 120, .int .i64 70]) (ok := fun _ => True) (okp := fun _ => True) ?hr ?hp (fun _ hk => hk) trivial (Below.refl _ _) (Nat.le_refl _) (by simp) ?_; (case hd => rfl); (case hg => rfl); (case hr => (go_simp; try rfl)); (case hp => exact (Reps.one (show Kd.M (Kd.int .i64) _ _ _ 30 [.int .i64 30] from rfl) (Reps.one (show Kd.M (Kd.int .i64) _ _ _ 25 [.int .i64 25] from rfl) (Reps.one (show Kd.M (Kd.int .i64) _ _ _ 28 [.int .i64 28] from rfl) (Reps.one (show Kd.M (Kd.int .i64) _ _ _ 45 [.int .i64 45] from rfl) (Reps.one (show Kd.M (Kd.int .i64) _ _ _ 160 [.int .i64 160] from rfl) (Reps.one (show Kd.M (Kd.int .i64) _ _ _ 60 [.int .i64 60] from rfl) (Reps.one (show Kd.M (Kd.int .i64) _ _ _ 32 [.int .i64 32] from rfl) (Reps.one (show Kd.M (Kd.int .i64) _ _ _ 35 [.int .i64 35] from rfl) (Reps.one (show Kd.M (Kd.int .i64) _ _ _ 120 [.int .i64 120] from rfl) (Reps.one (show Kd.M (Kd.int .i64) _ _ _ 70 [.int .i64 70] from rfl) (Reps.none _ _)))))))))))); intro v102 w1 ho2 hb hg_ hnew_; clear hg_ hnew_; (first | rw [← Ny101.out] at ho2 | (simp only [Int.reduceToNat] at ho2; rw [← Ny101.out] at ho2)); have HO103 := Aside0.mk (Kd.bq_ ho2 (ae_ (bz HB.out))); replace HB := Aside0.mk (ad_ (bz HB.out) hb); clear hb ho2))
 go_ret
 exact ⟨_, by first | rfl | (simp [*, ah_, ai_] <;> rfl), rz HO103.out, bz HB.out⟩
def spec_l28Up.f (a0 : Int) (a1 : Int) : Option (Int) := if a1 = 0 then (none) else (some (wrap64 (Int.tdiv (wrap64 ((wrap64 (a0 + a1)) - 1)) a1)))
set_option maxHeartbeats 8000000 in
set_option maxRecDepth 100000 in
theorem spec_l28Up.calls (a0 : Int) (a1 : Int) (r : Int) (w : World) (h : spec_l28Up.f a0 a1 = some r) :
  Calls Try.prog 33 #[.int .i64 a0, .int .i64 a1] w fun e w' => e = .returned (.int .i64 r) ∧ as_ w w' := by
 have H : (if a1 = 0 then (none) else (some (wrap64 (Int.tdiv (wrap64 ((wrap64 (a0 + a1)) - 1)) a1)))) = some r := h
 clear h
 by_cases c3 : a1 = 0
 rotate_left
 ·rw [if_neg c3] at H
  have c3b0 : (a1 == 0) = false := beq_eq_false_iff_ne.mpr c3
  have c3b1 : (a1 != 0) = true := bne_iff_ne.mpr c3
  obtain rfl := Option.some.inj H
  go_enter Try.func33, Try.ntmps33
  go_wp2
  go_ret
  exact ⟨by first | rfl | (simp; done) | (simp [*]; done), by repeat (first | exact as_.refl _ | apply as_.step)⟩
 rw [if_pos c3] at H
 exact absurd H (by simp)
end Go.Proofs.Ytpjhnchfhghlcaa.Q
