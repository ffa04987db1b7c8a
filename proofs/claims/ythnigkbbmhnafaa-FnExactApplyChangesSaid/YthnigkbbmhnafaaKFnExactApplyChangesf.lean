/- Changes made to a state, by the program as by the reference. This text holds the functions' walks and the words for them. -/
import Derived.Test.YthnigkbbmhnafaaKFnExactApplyChangesa
import Derived.Test.YthnigkbbmhnafaaKFnExactApplyChangesb
import Derived.Test.YthnigkbbmhnafaaKFnExactApplyChangese
import Derived.Test.YthnigkbbmhnafaaKFnExactApplyChangesd
set_option linter.unusedVariables false
set_option linter.unusedSimpArgs false
namespace Go.Proofs.Ythnigkbbmhnafaa.Q
open Go.RowKit Go.Proofs.YthnigkbbmhnafaaW.PrintWords Go.Proofs.YthnigkbbmhnafaaW.PrintLast Go.Proofs.YthnigkbbmhnafaaW.PrintMore
attribute [local go_sem] max2_int min2_int max_two min_two max_three min_three max_four min_four
set_option linter.unusedVariables false
set_option linter.unusedSimpArgs false
attribute [local go_sem high] eqA71
mutual
def impl_ApplyChanges.j0 : Nat → List (S71) → List (S87) → Bool → Option ((List (S71)) × Int)
  | 0, _, _, _ => none
  | k + 1, x0, x1, x17 => if x17 = true then (some (([] : List (S71)), 1)) else ((impl_Entry_88.f x0).bind fun t103 => (impl_ApplyChanges.l0 k t103 x1 (x1.length : Int) 0))
def impl_ApplyChanges.l0 : Nat → List (S71) → List (S87) → Int → Int → Option ((List (S71)) × Int)
  | 0, _, _, _, _ => none
  | k + 1, x6, x20, x21, x22 => if x22 < x21 then (if 0 ≤ x22 then (if x22 < (x20.length : Int) then ((impl_entryPlace.f k x6 ((rd_T87 x20 x22).f1.f0)).bind fun bt108 => (if ((rd_T87 x20 x22).f0) = 1 then (impl_ApplyChanges.j2 k x6 bt108.1 bt108.2 x20 x21 x22 bt108.2 ((rd_T87 x20 x22).f0) ((rd_T87 x20 x22).f1.f0) ((rd_T87 x20 x22).f1.f1.f0) ((rd_T87 x20 x22).f1.f1.f1) ((rd_T87 x20 x22).f1.f1.f2)) else (impl_ApplyChanges.j2 k x6 bt108.1 bt108.2 x20 x21 x22 false ((rd_T87 x20 x22).f0) ((rd_T87 x20 x22).f1.f0) ((rd_T87 x20 x22).f1.f1.f0) ((rd_T87 x20 x22).f1.f1.f1) ((rd_T87 x20 x22).f1.f1.f2)))) else (none)) else (none)) else (some (x6, 0))
def impl_ApplyChanges.j2 : Nat → List (S71) → Int → Bool → List (S87) → Int → Int → Bool → Int → ByteArray → ByteArray → Int → Int → Option ((List (S71)) × Int)
  | 0, _, _, _, _, _, _, _, _, _, _, _, _ => none
  | k + 1, x6, x9, x10, x20, x21, x22, x39, x108000, x108001, x108002, x108003, x108004 => if x39 = true then (if 0 ≤ x9 then (if x9 < (x6.length : Int) then (impl_ApplyChanges.l0 k (x6.set (x9 : Int).toNat (⟨x108001, (⟨x108002, x108003, x108004⟩ : S69)⟩ : S71)) x20 x21 (wrap64 (x22 + 1))) else (none)) else (none)) else (if x108000 = 1 then (impl_ApplyChanges.j3 k x6 x9 x10 x20 x21 x22 ((x6.length : Int) == 24) x108000 x108001 x108002 x108003 x108004) else (impl_ApplyChanges.j3 k x6 x9 x10 x20 x21 x22 false x108000 x108001 x108002 x108003 x108004))
def impl_ApplyChanges.j3 : Nat → List (S71) → Int → Bool → List (S87) → Int → Int → Bool → Int → ByteArray → ByteArray → Int → Int → Option ((List (S71)) × Int)
  | 0, _, _, _, _, _, _, _, _, _, _, _, _ => none
  | k + 1, x6, x9, x10, x20, x21, x22, x51, x108000, x108001, x108002, x108003, x108004 => if x51 = true then (some (([] : List (S71)), 5)) else (if x108000 = 1 then ((impl_Entry_89.f x6 x9 (([(⟨x108001, (⟨x108002, x108003, x108004⟩ : S69)⟩ : S71)] : List (S71)))).bind fun t114 => (impl_ApplyChanges.l0 k t114 x20 x21 (wrap64 (x22 + 1)))) else (if x10 = true then (if 0 ≤ x9 then (if x9 < (x6.length : Int) then (if (!((((rd_T71 x6 x9).f0).toList) == x108001.toList) || ((!((((rd_T71 x6 x9).f1.f0).toList) == x108002.toList) || (!(((rd_T71 x6 x9).f1.f1) == x108003) || (!(((rd_T71 x6 x9).f1.f2) == x108004)))))) = true then (some (([] : List (S71)), 6)) else ((impl_Entry_90.f x6 x9 (wrap64 (x9 + 1))).bind fun t118 => (impl_ApplyChanges.l0 k t118 x20 x21 (wrap64 (x22 + 1))))) else (none)) else (none)) else (some (([] : List (S71)), 3))))
end
def impl_ApplyChanges.f (k : Nat) (l0 : List (S71)) (l1 : List (S87)) : Option ((List (S71)) × Int) := (impl_ValidState.f k l0).bind fun t101 => (if t101 = true then ((impl_Change_86.f k l1).bind fun t102 => (impl_ApplyChanges.j0 k l0 l1 t102)) else (impl_ApplyChanges.j0 k l0 l1 true))
set_option maxHeartbeats 8000000 in
set_option maxRecDepth 100000 in
theorem impl_ApplyChanges.calls (k : Nat) (A0 : Option Addr) (c0 : Nat) (l0 : List (S71)) (A1 : Option Addr) (c1 : Nat) (l1 : List (S87)) (r1 : List (S71)) (r2 : Int) (w : World) (hr0 : Kd.C k71 w A0 l0.length l0) (hc0 : l0.length ≤ c0) (hr1 : Kd.C k87 w A1 l1.length l1) (hc1 : l1.length ≤ c1) (h : impl_ApplyChanges.f k l0 l1 = some (r1, r2)) :
    Calls Try.prog 49 #[.slice A0 l0.length c0, .slice A1 l1.length c1] w fun e w' => ∃ v0_ : Value, e = .returned (.tuple #[v0_, .int .i64 r2]) ∧ Kd.R k71 71 w' w.heap.size (fun _ => True) v0_ r1 ∧ Below w.heap.size w w' := by
  have hu87 := Try.underlying87
  have hu71 := Try.underlying71
  have HR0 := Aside0.mk hr0
  have HC0 := Aside0.mk hc0
  clear hr0 hc0
  have HR1 := Aside0.mk hr1
  have HC1 := Aside0.mk hc1
  clear hr1 hc1
  have HB := Aside0.mk (Below.refl w.heap.size w)
  have H : ((impl_ValidState.f k l0).bind fun t101 => (if t101 = true then ((impl_Change_86.f k l1).bind fun t102 => (impl_ApplyChanges.j0 k l0 l1 t102)) else (impl_ApplyChanges.j0 k l0 l1 true))) = some (r1, r2) := h
  clear h
  have HC3 := Aside0.mk H
  clear H
  go_enter Try.func49, Try.ntmps49
  go_upto_region 1 with (fail)
  repeat (go_quiet (fail); go_upto_region 1 with (fail))
  go_cut [17] (fun v17 wc => ∃ (kq : Nat) (x17_2 : Bool), v17 = .bool x17_2 ∧ Aside0 (impl_ApplyChanges.j0 kq l0 l1 x17_2 = some (r1, r2)) ∧ Aside0 (kq ≤ k) ∧ Aside0 (Below w.heap.size w wc))
  case first =>
    have H := HC3.out
    clear HC3
    replace H := Option.bind_eq_some_iff.mp H
    obtain ⟨t101, A40, H⟩ := H
    replace H : (if t101 = true then ((impl_Change_86.f k l1).bind fun t102 => (impl_ApplyChanges.j0 k l0 l1 t102)) else (impl_ApplyChanges.j0 k l0 l1 true)) = some (r1, r2) := H
    have A4 := Aside0.mk A40
    clear A40
    by_cases c5 : t101 = true
    · subst c5
      have H1 : ((impl_Change_86.f k l1).bind fun t102 => (impl_ApplyChanges.j0 k l0 l1 t102)) = some (r1, r2) := by rw [if_pos rfl] at H; exact H
      clear H
      have H := H1
      clear H1
      replace H := Option.bind_eq_some_iff.mp H
      obtain ⟨t102, A60, H⟩ := H
      replace H : (impl_ApplyChanges.j0 k l0 l1 t102) = some (r1, r2) := H
      have A6 := Aside0.mk A60
      clear A60
      have H' := Aside0.mk H
      clear H
      go_wp2_with (first | (go_at_call 19; (with_reducible refine (impl_ValidState.calls k _ _ l0 true _ ?side1 ?side2 A4.out).mono ?_); (case side1 => repeat (first | exact (Kd.C_below HR0.out HB.out) | (with_reducible refine Kd.C_alloc ?_ _) | (with_reducible refine Kd.C_drewN ?_ _) | (with_reducible refine Kd.C_drew ?_))); (case side2 => exact HC0.out); rintro e w7 ⟨rfl, hb⟩; have n0_ := Aside0.mk (below_step (by repeat (first | (with_reducible first | exact HB.out | apply below_alloc | apply pw_below_drewN | apply below_drew1) | exact HB.out)) hb); clear HB; have HB := n0_; clear n0_; (try clear hb); (try clear hb2); (try clear hk); (try clear hi)) | (go_at_call 86; (with_reducible refine (impl_Change_86.calls k _ _ l1  t102 _ ?side1 ?side2 A6.out).mono ?_); (case side1 => repeat (first | exact (Kd.C_below HR1.out HB.out) | (with_reducible refine Kd.C_alloc ?_ _) | (with_reducible refine Kd.C_drewN ?_ _) | (with_reducible refine Kd.C_drew ?_))); (case side2 => exact HC1.out); rintro e w8 ⟨rfl, hb⟩; have n0_ := Aside0.mk (below_step (by repeat (first | (with_reducible first | exact HB.out | apply below_alloc | apply pw_below_drewN | apply below_drew1) | exact HB.out)) hb); clear HB; have HB := n0_; clear n0_; (try clear hb); (try clear hb2); (try clear hk); (try clear hi)))
      repeat (go_quiet (first | (go_at_call 19; (with_reducible refine (impl_ValidState.calls k _ _ l0 true _ ?side1 ?side2 A4.out).mono ?_); (case side1 => repeat (first | exact (Kd.C_below HR0.out HB.out) | (with_reducible refine Kd.C_alloc ?_ _) | (with_reducible refine Kd.C_drewN ?_ _) | (with_reducible refine Kd.C_drew ?_))); (case side2 => exact HC0.out); rintro e w7 ⟨rfl, hb⟩; have n0_ := Aside0.mk (below_step (by repeat (first | (with_reducible first | exact HB.out | apply below_alloc | apply pw_below_drewN | apply below_drew1) | exact HB.out)) hb); clear HB; have HB := n0_; clear n0_; (try clear hb); (try clear hb2); (try clear hk); (try clear hi)) | (go_at_call 86; (with_reducible refine (impl_Change_86.calls k _ _ l1  t102 _ ?side1 ?side2 A6.out).mono ?_); (case side1 => repeat (first | exact (Kd.C_below HR1.out HB.out) | (with_reducible refine Kd.C_alloc ?_ _) | (with_reducible refine Kd.C_drewN ?_ _) | (with_reducible refine Kd.C_drew ?_))); (case side2 => exact HC1.out); rintro e w8 ⟨rfl, hb⟩; have n0_ := Aside0.mk (below_step (by repeat (first | (with_reducible first | exact HB.out | apply below_alloc | apply pw_below_drewN | apply below_drew1) | exact HB.out)) hb); clear HB; have HB := n0_; clear n0_; (try clear hb); (try clear hb2); (try clear hk); (try clear hi))); try go_wp2_with (first | (go_at_call 19; (with_reducible refine (impl_ValidState.calls k _ _ l0 true _ ?side1 ?side2 A4.out).mono ?_); (case side1 => repeat (first | exact (Kd.C_below HR0.out HB.out) | (with_reducible refine Kd.C_alloc ?_ _) | (with_reducible refine Kd.C_drewN ?_ _) | (with_reducible refine Kd.C_drew ?_))); (case side2 => exact HC0.out); rintro e w7 ⟨rfl, hb⟩; have n0_ := Aside0.mk (below_step (by repeat (first | (with_reducible first | exact HB.out | apply below_alloc | apply pw_below_drewN | apply below_drew1) | exact HB.out)) hb); clear HB; have HB := n0_; clear n0_; (try clear hb); (try clear hb2); (try clear hk); (try clear hi)) | (go_at_call 86; (with_reducible refine (impl_Change_86.calls k _ _ l1  t102 _ ?side1 ?side2 A6.out).mono ?_); (case side1 => repeat (first | exact (Kd.C_below HR1.out HB.out) | (with_reducible refine Kd.C_alloc ?_ _) | (with_reducible refine Kd.C_drewN ?_ _) | (with_reducible refine Kd.C_drew ?_))); (case side2 => exact HC1.out); rintro e w8 ⟨rfl, hb⟩; have n0_ := Aside0.mk (below_step (by repeat (first | (with_reducible first | exact HB.out | apply below_alloc | apply pw_below_drewN | apply below_drew1) | exact HB.out)) hb); clear HB; have HB := n0_; clear n0_; (try clear hb); (try clear hb2); (try clear hk); (try clear hi))))
      go_meet
      case rel => exact ⟨_, (t102), (by first | rfl | (simp; done) | (simp [*]; done)), H', ⟨by first | omega | exact Nat.le_refl _⟩, ⟨by repeat (first | (with_reducible first | exact HB.out | apply below_alloc | apply pw_below_drewN | apply below_drew1) | exact HB.out)⟩⟩
    · replace c5 := Bool.eq_false_iff.mpr c5
      subst c5
      have H1 : (impl_ApplyChanges.j0 k l0 l1 true) = some (r1, r2) := by rw [if_neg (show ¬ (false = true) by decide)] at H; exact H
      clear H
      have H := H1
      clear H1
      have H' := Aside0.mk H
      clear H
      go_wp2_with (first | (go_at_call 19; (with_reducible refine (impl_ValidState.calls k _ _ l0 false _ ?side1 ?side2 A4.out).mono ?_); (case side1 => repeat (first | exact (Kd.C_below HR0.out HB.out) | (with_reducible refine Kd.C_alloc ?_ _) | (with_reducible refine Kd.C_drewN ?_ _) | (with_reducible refine Kd.C_drew ?_))); (case side2 => exact HC0.out); rintro e w9 ⟨rfl, hb⟩; have n0_ := Aside0.mk (below_step (by repeat (first | (with_reducible first | exact HB.out | apply below_alloc | apply pw_below_drewN | apply below_drew1) | exact HB.out)) hb); clear HB; have HB := n0_; clear n0_; (try clear hb); (try clear hb2); (try clear hk); (try clear hi)))
      repeat (go_quiet (first | (go_at_call 19; (with_reducible refine (impl_ValidState.calls k _ _ l0 false _ ?side1 ?side2 A4.out).mono ?_); (case side1 => repeat (first | exact (Kd.C_below HR0.out HB.out) | (with_reducible refine Kd.C_alloc ?_ _) | (with_reducible refine Kd.C_drewN ?_ _) | (with_reducible refine Kd.C_drew ?_))); (case side2 => exact HC0.out); rintro e w9 ⟨rfl, hb⟩; have n0_ := Aside0.mk (below_step (by repeat (first | (with_reducible first | exact HB.out | apply below_alloc | apply pw_below_drewN | apply below_drew1) | exact HB.out)) hb); clear HB; have HB := n0_; clear n0_; (try clear hb); (try clear hb2); (try clear hk); (try clear hi))); try go_wp2_with (first | (go_at_call 19; (with_reducible refine (impl_ValidState.calls k _ _ l0 false _ ?side1 ?side2 A4.out).mono ?_); (case side1 => repeat (first | exact (Kd.C_below HR0.out HB.out) | (with_reducible refine Kd.C_alloc ?_ _) | (with_reducible refine Kd.C_drewN ?_ _) | (with_reducible refine Kd.C_drew ?_))); (case side2 => exact HC0.out); rintro e w9 ⟨rfl, hb⟩; have n0_ := Aside0.mk (below_step (by repeat (first | (with_reducible first | exact HB.out | apply below_alloc | apply pw_below_drewN | apply below_drew1) | exact HB.out)) hb); clear HB; have HB := n0_; clear n0_; (try clear hb); (try clear hb2); (try clear hk); (try clear hi))))
      go_meet
      case rel => exact ⟨_, (true), (by first | rfl | (simp; done) | (simp [*]; done)), H', ⟨by first | omega | exact Nat.le_refl _⟩, ⟨by repeat (first | (with_reducible first | exact HB.out | apply below_alloc | apply pw_below_drewN | apply below_drew1) | exact HB.out)⟩⟩
  case rest =>
    clear HC3
    try clear c1
    try clear p2
    try clear c4
    try clear c5
    obtain ⟨kq, x17_2, rfl, HA, HJ2, HB⟩ := hcut
    cases kq with
    | zero => exact absurd HA.out (by simp [impl_ApplyChanges.j0])
    | succ kj2 =>
      have H := HA.out
      clear HA
      simp only [impl_ApplyChanges.j0] at H
      by_cases c10 : x17_2 = true
      · subst c10
        have H1 : (some (([] : List (S71)), 1)) = some (r1, r2) := by rw [if_pos rfl] at H; exact H
        clear H
        have H := H1
        clear H1
        simp only [Option.some.injEq, Prod.mk.injEq] at H
        obtain ⟨rfl, rfl⟩ := H
        go_wp2
        repeat (go_quiet (fail); try go_wp2)
        go_ret2
        exact ⟨_, by first | rfl | (simp [errW_none, errW_some] <;> rfl) | (simp [*, errW_none, errW_some] <;> rfl), by first | exact Kd.R_nil _ _ _ _ _ | exact Kd.N_nil _ _ _ _ _ | exact Kd.V_nil _ _ _ _ _ | exact Kd.Q_nil _ _ _ _ _ | exact Kd.S_nil _ _ _ _ _, by repeat (first | (with_reducible first | exact HB.out | apply below_alloc | apply pw_below_drewN | apply below_drew1) | exact HB.out)⟩
      · replace c10 := Bool.eq_false_iff.mpr c10
        subst c10
        have H1 : ((impl_Entry_88.f l0).bind fun t103 => (impl_ApplyChanges.l0 kj2 t103 l1 (l1.length : Int) 0)) = some (r1, r2) := by rw [if_neg (show ¬ (false = true) by decide)] at H; exact H
        clear H
        have H := H1
        clear H1
        replace H := Option.bind_eq_some_iff.mp H
        obtain ⟨t103, A110, H⟩ := H
        replace H : (impl_ApplyChanges.l0 kj2 t103 l1 (l1.length : Int) 0) = some (r1, r2) := H
        have A11 := Aside0.mk A110
        clear A110
        have H' := Aside0.mk H
        clear H
        go_wp2_with (first | (go_at_call 88; (with_reducible refine (impl_Entry_88.calls _ _ l0 t103 _ ?side1 ?side2 A11.out).mono ?_); (case side1 => repeat (first | exact (Kd.C_below HR0.out HB.out) | (with_reducible refine Kd.C_alloc ?_ _) | (with_reducible refine Kd.C_drewN ?_ _) | (with_reducible refine Kd.C_drew ?_))); (case side2 => exact HC0.out); rintro e w12 ⟨v104, rfl, ho0, hb⟩; have n0_ := Aside0.mk (Kd.R_lower ho0 (below_size (by repeat (first | (with_reducible first | exact HB.out | apply below_alloc | apply pw_below_drewN | apply below_drew1) | exact HB.out)))); have n1_ := Aside0.mk (below_step (by repeat (first | (with_reducible first | exact HB.out | apply below_alloc | apply pw_below_drewN | apply below_drew1) | exact HB.out)) hb); clear HB; have HO105 := n0_; have HB := n1_; clear n0_ n1_; (try clear hb); (try clear hb2); (try clear hk); (try clear hi); (try clear ho0)))
        repeat (go_quiet (first | (go_at_call 88; (with_reducible refine (impl_Entry_88.calls _ _ l0 t103 _ ?side1 ?side2 A11.out).mono ?_); (case side1 => repeat (first | exact (Kd.C_below HR0.out HB.out) | (with_reducible refine Kd.C_alloc ?_ _) | (with_reducible refine Kd.C_drewN ?_ _) | (with_reducible refine Kd.C_drew ?_))); (case side2 => exact HC0.out); rintro e w12 ⟨v104, rfl, ho0, hb⟩; have n0_ := Aside0.mk (Kd.R_lower ho0 (below_size (by repeat (first | (with_reducible first | exact HB.out | apply below_alloc | apply pw_below_drewN | apply below_drew1) | exact HB.out)))); have n1_ := Aside0.mk (below_step (by repeat (first | (with_reducible first | exact HB.out | apply below_alloc | apply pw_below_drewN | apply below_drew1) | exact HB.out)) hb); clear HB; have HO105 := n0_; have HB := n1_; clear n0_ n1_; (try clear hb); (try clear hb2); (try clear hk); (try clear hi); (try clear ho0))); try go_wp2_with (first | (go_at_call 88; (with_reducible refine (impl_Entry_88.calls _ _ l0 t103 _ ?side1 ?side2 A11.out).mono ?_); (case side1 => repeat (first | exact (Kd.C_below HR0.out HB.out) | (with_reducible refine Kd.C_alloc ?_ _) | (with_reducible refine Kd.C_drewN ?_ _) | (with_reducible refine Kd.C_drew ?_))); (case side2 => exact HC0.out); rintro e w12 ⟨v104, rfl, ho0, hb⟩; have n0_ := Aside0.mk (Kd.R_lower ho0 (below_size (by repeat (first | (with_reducible first | exact HB.out | apply below_alloc | apply pw_below_drewN | apply below_drew1) | exact HB.out)))); have n1_ := Aside0.mk (below_step (by repeat (first | (with_reducible first | exact HB.out | apply below_alloc | apply pw_below_drewN | apply below_drew1) | exact HB.out)) hb); clear HB; have HO105 := n0_; have HB := n1_; clear n0_ n1_; (try clear hb); (try clear hb2); (try clear hk); (try clear hi); (try clear ho0))))
        go_loopg [6, 22] kj2 (fun kq v6 v22 w' => ∃ (x6_2 : List (S71)) (x22_2 : Int), v22 = .int .i64 x22_2 ∧ Aside0 (impl_ApplyChanges.l0 kq x6_2 l1 (l1.length : Int) x22_2 = some (r1, r2)) ∧ Aside0 (kq ≤ kj2) ∧ Aside0 (Kd.R k71 71 w' w.heap.size (fun _ => True) v6 x6_2) ∧ Aside0 (Below w.heap.size w w'))
        case atStart => exact ⟨(t103), (0), (by first | rfl | (simp; done) | (simp [*]; done)), H', ⟨Nat.le_refl _⟩, ⟨by (with_reducible repeat (first | apply Kd.R_alloc | apply Kd.R_drewN | apply Kd.R_drew)); exact HO105.out⟩, ⟨by repeat (first | (with_reducible first | exact HB.out | apply below_alloc | apply pw_below_drewN | apply below_drew1) | exact HB.out)⟩⟩
        case round =>
          clear H'
          try clear c1
          try clear p2
          try clear c4
          try clear c5
          try clear c10
          try clear p2
          obtain ⟨x6_2, x22_2, rfl, HA, HK2, HO_6, HB⟩ := hrel
          cases gk with
          | zero => exact absurd HA.out (by simp [impl_ApplyChanges.l0])
          | succ k2 =>
            have H := HA.out
            clear HA
            simp only [impl_ApplyChanges.l0] at H
            by_cases c13 : x22_2 < (l1.length : Int)
            · rw [if_pos c13] at H
              have c13b0 : decide (x22_2 < (l1.length : Int)) = true := decide_eq_true c13
              clear c13
              by_cases c14 : 0 ≤ x22_2
              · rw [if_pos c14] at H
                have c14b0 : decide (0 ≤ x22_2) = true := decide_eq_true c14
                clear c14
                by_cases c15 : x22_2 < (l1.length : Int)
                · rw [if_pos c15] at H
                  have c15b0 : decide (x22_2 < (l1.length : Int)) = true := decide_eq_true c15
                  clear c15
                  replace H := Option.bind_eq_some_iff.mp H
                  obtain ⟨⟨t108, t109⟩, A160, H⟩ := H
                  replace H : (if ((rd_T87 l1 x22_2).f0) = 1 then (impl_ApplyChanges.j2 k2 x6_2 t108 t109 l1 (l1.length : Int) x22_2 t109 ((rd_T87 l1 x22_2).f0) ((rd_T87 l1 x22_2).f1.f0) ((rd_T87 l1 x22_2).f1.f1.f0) ((rd_T87 l1 x22_2).f1.f1.f1) ((rd_T87 l1 x22_2).f1.f1.f2)) else (impl_ApplyChanges.j2 k2 x6_2 t108 t109 l1 (l1.length : Int) x22_2 false ((rd_T87 l1 x22_2).f0) ((rd_T87 l1 x22_2).f1.f0) ((rd_T87 l1 x22_2).f1.f1.f0) ((rd_T87 l1 x22_2).f1.f1.f1) ((rd_T87 l1 x22_2).f1.f1.f2))) = some (r1, r2) := H
                  have A16 := Aside0.mk A160
                  clear A160
                  have HC17 := Aside0.mk H
                  clear H
                  have p106 : 0 ≤ (x22_2 : Int) := of_decide_eq_true (by first | (with_reducible assumption) | assumption)
                  have q106 : x22_2 < (l1.length : Int) := of_decide_eq_true (by first | (with_reducible assumption) | assumption)
                  obtain ⟨ad106, e106, hx106_0, hx106_1, hx106_2, hx106_3, hx106_4⟩ := at_T87 HR1.out x22_2 p106 q106
                  cases e106
                  replace hx106_0 := (HB.out.cell (World.block_lt_of_cell? w _ hx106_0)).trans hx106_0
                  replace hx106_1 := (HB.out.cell (World.block_lt_of_cell? w _ hx106_1)).trans hx106_1
                  replace hx106_2 := (HB.out.cell (World.block_lt_of_cell? w _ hx106_2)).trans hx106_2
                  replace hx106_3 := (HB.out.cell (World.block_lt_of_cell? w _ hx106_3)).trans hx106_3
                  replace hx106_4 := (HB.out.cell (World.block_lt_of_cell? w _ hx106_4)).trans hx106_4
                  replace p106 := eq_true p106
                  replace q106 := eq_true q106
                  go_upto_region 9 with (first | ((with_reducible refine gate_dst (N := 8) rfl ?_); (try (refine gate_guard (by rfl) ?_; dsimp only)); refine box_event ?hg (N := 8) ?hd (cs := #[.int .i64 0, .string (⟨#[]⟩ : ByteArray), .string (⟨#[]⟩ : ByteArray), .int .i64 0, .int .i64 0]) (t := 87) ?hr ?_; (case hd => rfl); (case hg => rfl); (case hr => first | (go_simp; done) | (go_simp; rfl)); intro gb107 hg w18 hbox hb; have n0_ := Aside0.mk (Kd.R_below (by (with_reducible repeat (first | apply Kd.R_alloc | apply Kd.R_drewN | apply Kd.R_drew)); exact HO_6.out) hb); have n1_ := Aside0.mk (below_step (by repeat (first | (with_reducible first | exact HB.out | apply below_alloc | apply pw_below_drewN | apply below_drew1) | exact HB.out)) hb); have n2_ := Aside0.mk (hbox); have n3_ := Aside0.mk ((by rw [hg]; exact (below_size (by repeat (first | (with_reducible first | exact HB.out | apply below_alloc | apply pw_below_drewN | apply below_drew1) | exact HB.out))) : w.heap.size ≤ gb107)); have n4_ := Aside0.mk ((by rw [hg]; exact (below_size (by repeat (first | (with_reducible first | exact HB.out | apply below_alloc | apply pw_below_drewN | apply below_drew1) | exact HB.out))) : w.heap.size ≤ gb107)); clear HO_6; clear HB; have HO_6 := n0_; have HB := n1_; have BK107 := n2_; have GW107 := n3_; have GE107 := n4_; clear n0_ n1_ n2_ n3_ n4_; clear hb hbox hg; have hcz19_0 : w18.cell? ⟨gb107, 0, none⟩ = some (.int .i64 0) := (blk_cell BK107.out 0).trans rfl; have hcz19_1 : w18.cell? ⟨gb107, 1, none⟩ = some (.string (⟨#[]⟩ : ByteArray)) := (blk_cell BK107.out 1).trans rfl; have hcz19_2 : w18.cell? ⟨gb107, 2, none⟩ = some (.string (⟨#[]⟩ : ByteArray)) := (blk_cell BK107.out 2).trans rfl; have hcz19_3 : w18.cell? ⟨gb107, 3, none⟩ = some (.int .i64 0) := (blk_cell BK107.out 3).trans rfl; have hcz19_4 : w18.cell? ⟨gb107, 4, none⟩ = some (.int .i64 0) := (blk_cell BK107.out 4).trans rfl; have hfz19_0 := blk_frozen BK107.out 0; have hfz19_1 := blk_frozen BK107.out 1; have hfz19_2 := blk_frozen BK107.out 2; have hfz19_3 := blk_frozen BK107.out 3; have hfz19_4 := blk_frozen BK107.out 4; obtain ⟨Ao20, co20, eo20⟩ := Kd.R_slice HO_6.out; subst eo20) | (go_at_call 67; (with_reducible refine (impl_entryPlace.calls k2 _ _ x6_2 ((rd_T87 l1 x22_2).f1.f0) t108 t109 _ ?side1 ?side2 A16.out).mono ?_); (case side1 => refine (Kd.R_reads' (e := 71) (base := w.heap.size) (ok := fun k_ => True) (n := x6_2.length) (c := co20) ?_).2.2; exact (by (with_reducible repeat (first | apply Kd.R_alloc | apply Kd.R_drewN | apply Kd.R_drew)); exact (Kd.R_mono (Kd.R_far (p := ⟨gb107, 4, none⟩) (Kd.R_far (p := ⟨gb107, 3, none⟩) (Kd.R_far (p := ⟨gb107, 2, none⟩) (Kd.R_far (p := ⟨gb107, 1, none⟩) (Kd.R_far (p := ⟨gb107, 0, none⟩) (Kd.R_types HO_6.out BK107.out (by decide)) (fun _ hk => hk.2) (.int .i64 ((rd_T87 l1 x22_2).f0))) (fun _ hk => hk.2) (.string ((rd_T87 l1 x22_2).f1.f0))) (fun _ hk => hk.2) (.string ((rd_T87 l1 x22_2).f1.f1.f0))) (fun _ hk => hk.2) (.int .i64 ((rd_T87 l1 x22_2).f1.f1.f1))) (fun _ hk => hk.2) (.int .i64 ((rd_T87 l1 x22_2).f1.f1.f2))) (fun _ h_ => h_.1)))); (case side2 => exact (Kd.R_reads' HO_6.out).2.1); rintro e w21 ⟨rfl, hb⟩; have n0_ := Aside0.mk (Kd.R_below (by (with_reducible repeat (first | apply Kd.R_alloc | apply Kd.R_drewN | apply Kd.R_drew)); exact (Kd.R_mono (Kd.R_far (p := ⟨gb107, 4, none⟩) (Kd.R_far (p := ⟨gb107, 3, none⟩) (Kd.R_far (p := ⟨gb107, 2, none⟩) (Kd.R_far (p := ⟨gb107, 1, none⟩) (Kd.R_far (p := ⟨gb107, 0, none⟩) (Kd.R_types HO_6.out BK107.out (by decide)) (fun _ hk => hk.2) (.int .i64 ((rd_T87 l1 x22_2).f0))) (fun _ hk => hk.2) (.string ((rd_T87 l1 x22_2).f1.f0))) (fun _ hk => hk.2) (.string ((rd_T87 l1 x22_2).f1.f1.f0))) (fun _ hk => hk.2) (.int .i64 ((rd_T87 l1 x22_2).f1.f1.f1))) (fun _ hk => hk.2) (.int .i64 ((rd_T87 l1 x22_2).f1.f1.f2))) (fun _ h_ => h_.1))) hb); have n1_ := Aside0.mk (blk_below (g := gb107) (o := .cells #[.int .i64 ((rd_T87 l1 x22_2).f0), .string ((rd_T87 l1 x22_2).f1.f0), .string ((rd_T87 l1 x22_2).f1.f1.f0), .int .i64 ((rd_T87 l1 x22_2).f1.f1.f1), .int .i64 ((rd_T87 l1 x22_2).f1.f1.f2)] 87 (0, 0)) (by (with_reducible repeat (first | refine blk_drewN ?_ _ | refine blk_drew ?_ | refine blk_alloc ?_ _)); refine blk_put (cs := #[.int .i64 ((rd_T87 l1 x22_2).f0), .string ((rd_T87 l1 x22_2).f1.f0), .string ((rd_T87 l1 x22_2).f1.f1.f0), .int .i64 ((rd_T87 l1 x22_2).f1.f1.f1), .int .i64 0]) ?_ 4 _ rfl; (with_reducible repeat (first | refine blk_drewN ?_ _ | refine blk_drew ?_ | refine blk_alloc ?_ _)); refine blk_put (cs := #[.int .i64 ((rd_T87 l1 x22_2).f0), .string ((rd_T87 l1 x22_2).f1.f0), .string ((rd_T87 l1 x22_2).f1.f1.f0), .int .i64 0, .int .i64 0]) ?_ 3 _ rfl; (with_reducible repeat (first | refine blk_drewN ?_ _ | refine blk_drew ?_ | refine blk_alloc ?_ _)); refine blk_put (cs := #[.int .i64 ((rd_T87 l1 x22_2).f0), .string ((rd_T87 l1 x22_2).f1.f0), .string (⟨#[]⟩ : ByteArray), .int .i64 0, .int .i64 0]) ?_ 2 _ rfl; (with_reducible repeat (first | refine blk_drewN ?_ _ | refine blk_drew ?_ | refine blk_alloc ?_ _)); refine blk_put (cs := #[.int .i64 ((rd_T87 l1 x22_2).f0), .string (⟨#[]⟩ : ByteArray), .string (⟨#[]⟩ : ByteArray), .int .i64 0, .int .i64 0]) ?_ 1 _ rfl; (with_reducible repeat (first | refine blk_drewN ?_ _ | refine blk_drew ?_ | refine blk_alloc ?_ _)); refine blk_put (cs := #[.int .i64 0, .string (⟨#[]⟩ : ByteArray), .string (⟨#[]⟩ : ByteArray), .int .i64 0, .int .i64 0]) ?_ 0 _ rfl; (with_reducible repeat (first | refine blk_drewN ?_ _ | refine blk_drew ?_ | refine blk_alloc ?_ _)); exact BK107.out) hb); have n2_ := Aside0.mk (below_step (by repeat (first | (with_reducible first | exact HB.out | apply below_alloc | apply pw_below_drewN | apply below_drew1 | refine below_set ?_ GE107.out) | exact HB.out)) hb); clear HO_6; clear BK107; clear HB; have HO_6 := n0_; have BK107 := n1_; have HB := n2_; clear n0_ n1_ n2_; (try clear hb); (try clear hb2); (try clear hk); (try clear hi)))
                  repeat (go_quiet (first | ((with_reducible refine gate_dst (N := 8) rfl ?_); (try (refine gate_guard (by rfl) ?_; dsimp only)); refine box_event ?hg (N := 8) ?hd (cs := #[.int .i64 0, .string (⟨#[]⟩ : ByteArray), .string (⟨#[]⟩ : ByteArray), .int .i64 0, .int .i64 0]) (t := 87) ?hr ?_; (case hd => rfl); (case hg => rfl); (case hr => first | (go_simp; done) | (go_simp; rfl)); intro gb107 hg w18 hbox hb; have n0_ := Aside0.mk (Kd.R_below (by (with_reducible repeat (first | apply Kd.R_alloc | apply Kd.R_drewN | apply Kd.R_drew)); exact HO_6.out) hb); have n1_ := Aside0.mk (below_step (by repeat (first | (with_reducible first | exact HB.out | apply below_alloc | apply pw_below_drewN | apply below_drew1) | exact HB.out)) hb); have n2_ := Aside0.mk (hbox); have n3_ := Aside0.mk ((by rw [hg]; exact (below_size (by repeat (first | (with_reducible first | exact HB.out | apply below_alloc | apply pw_below_drewN | apply below_drew1) | exact HB.out))) : w.heap.size ≤ gb107)); have n4_ := Aside0.mk ((by rw [hg]; exact (below_size (by repeat (first | (with_reducible first | exact HB.out | apply below_alloc | apply pw_below_drewN | apply below_drew1) | exact HB.out))) : w.heap.size ≤ gb107)); clear HO_6; clear HB; have HO_6 := n0_; have HB := n1_; have BK107 := n2_; have GW107 := n3_; have GE107 := n4_; clear n0_ n1_ n2_ n3_ n4_; clear hb hbox hg; have hcz19_0 : w18.cell? ⟨gb107, 0, none⟩ = some (.int .i64 0) := (blk_cell BK107.out 0).trans rfl; have hcz19_1 : w18.cell? ⟨gb107, 1, none⟩ = some (.string (⟨#[]⟩ : ByteArray)) := (blk_cell BK107.out 1).trans rfl; have hcz19_2 : w18.cell? ⟨gb107, 2, none⟩ = some (.string (⟨#[]⟩ : ByteArray)) := (blk_cell BK107.out 2).trans rfl; have hcz19_3 : w18.cell? ⟨gb107, 3, none⟩ = some (.int .i64 0) := (blk_cell BK107.out 3).trans rfl; have hcz19_4 : w18.cell? ⟨gb107, 4, none⟩ = some (.int .i64 0) := (blk_cell BK107.out 4).trans rfl; have hfz19_0 := blk_frozen BK107.out 0; have hfz19_1 := blk_frozen BK107.out 1; have hfz19_2 := blk_frozen BK107.out 2; have hfz19_3 := blk_frozen BK107.out 3; have hfz19_4 := blk_frozen BK107.out 4; obtain ⟨Ao20, co20, eo20⟩ := Kd.R_slice HO_6.out; subst eo20) | (go_at_call 67; (with_reducible refine (impl_entryPlace.calls k2 _ _ x6_2 ((rd_T87 l1 x22_2).f1.f0) t108 t109 _ ?side1 ?side2 A16.out).mono ?_); (case side1 => refine (Kd.R_reads' (e := 71) (base := w.heap.size) (ok := fun k_ => True) (n := x6_2.length) (c := co20) ?_).2.2; exact (by (with_reducible repeat (first | apply Kd.R_alloc | apply Kd.R_drewN | apply Kd.R_drew)); exact (Kd.R_mono (Kd.R_far (p := ⟨gb107, 4, none⟩) (Kd.R_far (p := ⟨gb107, 3, none⟩) (Kd.R_far (p := ⟨gb107, 2, none⟩) (Kd.R_far (p := ⟨gb107, 1, none⟩) (Kd.R_far (p := ⟨gb107, 0, none⟩) (Kd.R_types HO_6.out BK107.out (by decide)) (fun _ hk => hk.2) (.int .i64 ((rd_T87 l1 x22_2).f0))) (fun _ hk => hk.2) (.string ((rd_T87 l1 x22_2).f1.f0))) (fun _ hk => hk.2) (.string ((rd_T87 l1 x22_2).f1.f1.f0))) (fun _ hk => hk.2) (.int .i64 ((rd_T87 l1 x22_2).f1.f1.f1))) (fun _ hk => hk.2) (.int .i64 ((rd_T87 l1 x22_2).f1.f1.f2))) (fun _ h_ => h_.1)))); (case side2 => exact (Kd.R_reads' HO_6.out).2.1); rintro e w21 ⟨rfl, hb⟩; have n0_ := Aside0.mk (Kd.R_below (by (with_reducible repeat (first | apply Kd.R_alloc | apply Kd.R_drewN | apply Kd.R_drew)); exact (Kd.R_mono (Kd.R_far (p := ⟨gb107, 4, none⟩) (Kd.R_far (p := ⟨gb107, 3, none⟩) (Kd.R_far (p := ⟨gb107, 2, none⟩) (Kd.R_far (p := ⟨gb107, 1, none⟩) (Kd.R_far (p := ⟨gb107, 0, none⟩) (Kd.R_types HO_6.out BK107.out (by decide)) (fun _ hk => hk.2) (.int .i64 ((rd_T87 l1 x22_2).f0))) (fun _ hk => hk.2) (.string ((rd_T87 l1 x22_2).f1.f0))) (fun _ hk => hk.2) (.string ((rd_T87 l1 x22_2).f1.f1.f0))) (fun _ hk => hk.2) (.int .i64 ((rd_T87 l1 x22_2).f1.f1.f1))) (fun _ hk => hk.2) (.int .i64 ((rd_T87 l1 x22_2).f1.f1.f2))) (fun _ h_ => h_.1))) hb); have n1_ := Aside0.mk (blk_below (g := gb107) (o := .cells #[.int .i64 ((rd_T87 l1 x22_2).f0), .string ((rd_T87 l1 x22_2).f1.f0), .string ((rd_T87 l1 x22_2).f1.f1.f0), .int .i64 ((rd_T87 l1 x22_2).f1.f1.f1), .int .i64 ((rd_T87 l1 x22_2).f1.f1.f2)] 87 (0, 0)) (by (with_reducible repeat (first | refine blk_drewN ?_ _ | refine blk_drew ?_ | refine blk_alloc ?_ _)); refine blk_put (cs := #[.int .i64 ((rd_T87 l1 x22_2).f0), .string ((rd_T87 l1 x22_2).f1.f0), .string ((rd_T87 l1 x22_2).f1.f1.f0), .int .i64 ((rd_T87 l1 x22_2).f1.f1.f1), .int .i64 0]) ?_ 4 _ rfl; (with_reducible repeat (first | refine blk_drewN ?_ _ | refine blk_drew ?_ | refine blk_alloc ?_ _)); refine blk_put (cs := #[.int .i64 ((rd_T87 l1 x22_2).f0), .string ((rd_T87 l1 x22_2).f1.f0), .string ((rd_T87 l1 x22_2).f1.f1.f0), .int .i64 0, .int .i64 0]) ?_ 3 _ rfl; (with_reducible repeat (first | refine blk_drewN ?_ _ | refine blk_drew ?_ | refine blk_alloc ?_ _)); refine blk_put (cs := #[.int .i64 ((rd_T87 l1 x22_2).f0), .string ((rd_T87 l1 x22_2).f1.f0), .string (⟨#[]⟩ : ByteArray), .int .i64 0, .int .i64 0]) ?_ 2 _ rfl; (with_reducible repeat (first | refine blk_drewN ?_ _ | refine blk_drew ?_ | refine blk_alloc ?_ _)); refine blk_put (cs := #[.int .i64 ((rd_T87 l1 x22_2).f0), .string (⟨#[]⟩ : ByteArray), .string (⟨#[]⟩ : ByteArray), .int .i64 0, .int .i64 0]) ?_ 1 _ rfl; (with_reducible repeat (first | refine blk_drewN ?_ _ | refine blk_drew ?_ | refine blk_alloc ?_ _)); refine blk_put (cs := #[.int .i64 0, .string (⟨#[]⟩ : ByteArray), .string (⟨#[]⟩ : ByteArray), .int .i64 0, .int .i64 0]) ?_ 0 _ rfl; (with_reducible repeat (first | refine blk_drewN ?_ _ | refine blk_drew ?_ | refine blk_alloc ?_ _)); exact BK107.out) hb); have n2_ := Aside0.mk (below_step (by repeat (first | (with_reducible first | exact HB.out | apply below_alloc | apply pw_below_drewN | apply below_drew1 | refine below_set ?_ GE107.out) | exact HB.out)) hb); clear HO_6; clear BK107; clear HB; have HO_6 := n0_; have BK107 := n1_; have HB := n2_; clear n0_ n1_ n2_; (try clear hb); (try clear hb2); (try clear hk); (try clear hi))); go_upto_region 9 with (first | ((with_reducible refine gate_dst (N := 8) rfl ?_); (try (refine gate_guard (by rfl) ?_; dsimp only)); refine box_event ?hg (N := 8) ?hd (cs := #[.int .i64 0, .string (⟨#[]⟩ : ByteArray), .string (⟨#[]⟩ : ByteArray), .int .i64 0, .int .i64 0]) (t := 87) ?hr ?_; (case hd => rfl); (case hg => rfl); (case hr => first | (go_simp; done) | (go_simp; rfl)); intro gb107 hg w18 hbox hb; have n0_ := Aside0.mk (Kd.R_below (by (with_reducible repeat (first | apply Kd.R_alloc | apply Kd.R_drewN | apply Kd.R_drew)); exact HO_6.out) hb); have n1_ := Aside0.mk (below_step (by repeat (first | (with_reducible first | exact HB.out | apply below_alloc | apply pw_below_drewN | apply below_drew1) | exact HB.out)) hb); have n2_ := Aside0.mk (hbox); have n3_ := Aside0.mk ((by rw [hg]; exact (below_size (by repeat (first | (with_reducible first | exact HB.out | apply below_alloc | apply pw_below_drewN | apply below_drew1) | exact HB.out))) : w.heap.size ≤ gb107)); have n4_ := Aside0.mk ((by rw [hg]; exact (below_size (by repeat (first | (with_reducible first | exact HB.out | apply below_alloc | apply pw_below_drewN | apply below_drew1) | exact HB.out))) : w.heap.size ≤ gb107)); clear HO_6; clear HB; have HO_6 := n0_; have HB := n1_; have BK107 := n2_; have GW107 := n3_; have GE107 := n4_; clear n0_ n1_ n2_ n3_ n4_; clear hb hbox hg; have hcz19_0 : w18.cell? ⟨gb107, 0, none⟩ = some (.int .i64 0) := (blk_cell BK107.out 0).trans rfl; have hcz19_1 : w18.cell? ⟨gb107, 1, none⟩ = some (.string (⟨#[]⟩ : ByteArray)) := (blk_cell BK107.out 1).trans rfl; have hcz19_2 : w18.cell? ⟨gb107, 2, none⟩ = some (.string (⟨#[]⟩ : ByteArray)) := (blk_cell BK107.out 2).trans rfl; have hcz19_3 : w18.cell? ⟨gb107, 3, none⟩ = some (.int .i64 0) := (blk_cell BK107.out 3).trans rfl; have hcz19_4 : w18.cell? ⟨gb107, 4, none⟩ = some (.int .i64 0) := (blk_cell BK107.out 4).trans rfl; have hfz19_0 := blk_frozen BK107.out 0; have hfz19_1 := blk_frozen BK107.out 1; have hfz19_2 := blk_frozen BK107.out 2; have hfz19_3 := blk_frozen BK107.out 3; have hfz19_4 := blk_frozen BK107.out 4; obtain ⟨Ao20, co20, eo20⟩ := Kd.R_slice HO_6.out; subst eo20) | (go_at_call 67; (with_reducible refine (impl_entryPlace.calls k2 _ _ x6_2 ((rd_T87 l1 x22_2).f1.f0) t108 t109 _ ?side1 ?side2 A16.out).mono ?_); (case side1 => refine (Kd.R_reads' (e := 71) (base := w.heap.size) (ok := fun k_ => True) (n := x6_2.length) (c := co20) ?_).2.2; exact (by (with_reducible repeat (first | apply Kd.R_alloc | apply Kd.R_drewN | apply Kd.R_drew)); exact (Kd.R_mono (Kd.R_far (p := ⟨gb107, 4, none⟩) (Kd.R_far (p := ⟨gb107, 3, none⟩) (Kd.R_far (p := ⟨gb107, 2, none⟩) (Kd.R_far (p := ⟨gb107, 1, none⟩) (Kd.R_far (p := ⟨gb107, 0, none⟩) (Kd.R_types HO_6.out BK107.out (by decide)) (fun _ hk => hk.2) (.int .i64 ((rd_T87 l1 x22_2).f0))) (fun _ hk => hk.2) (.string ((rd_T87 l1 x22_2).f1.f0))) (fun _ hk => hk.2) (.string ((rd_T87 l1 x22_2).f1.f1.f0))) (fun _ hk => hk.2) (.int .i64 ((rd_T87 l1 x22_2).f1.f1.f1))) (fun _ hk => hk.2) (.int .i64 ((rd_T87 l1 x22_2).f1.f1.f2))) (fun _ h_ => h_.1)))); (case side2 => exact (Kd.R_reads' HO_6.out).2.1); rintro e w21 ⟨rfl, hb⟩; have n0_ := Aside0.mk (Kd.R_below (by (with_reducible repeat (first | apply Kd.R_alloc | apply Kd.R_drewN | apply Kd.R_drew)); exact (Kd.R_mono (Kd.R_far (p := ⟨gb107, 4, none⟩) (Kd.R_far (p := ⟨gb107, 3, none⟩) (Kd.R_far (p := ⟨gb107, 2, none⟩) (Kd.R_far (p := ⟨gb107, 1, none⟩) (Kd.R_far (p := ⟨gb107, 0, none⟩) (Kd.R_types HO_6.out BK107.out (by decide)) (fun _ hk => hk.2) (.int .i64 ((rd_T87 l1 x22_2).f0))) (fun _ hk => hk.2) (.string ((rd_T87 l1 x22_2).f1.f0))) (fun _ hk => hk.2) (.string ((rd_T87 l1 x22_2).f1.f1.f0))) (fun _ hk => hk.2) (.int .i64 ((rd_T87 l1 x22_2).f1.f1.f1))) (fun _ hk => hk.2) (.int .i64 ((rd_T87 l1 x22_2).f1.f1.f2))) (fun _ h_ => h_.1))) hb); have n1_ := Aside0.mk (blk_below (g := gb107) (o := .cells #[.int .i64 ((rd_T87 l1 x22_2).f0), .string ((rd_T87 l1 x22_2).f1.f0), .string ((rd_T87 l1 x22_2).f1.f1.f0), .int .i64 ((rd_T87 l1 x22_2).f1.f1.f1), .int .i64 ((rd_T87 l1 x22_2).f1.f1.f2)] 87 (0, 0)) (by (with_reducible repeat (first | refine blk_drewN ?_ _ | refine blk_drew ?_ | refine blk_alloc ?_ _)); refine blk_put (cs := #[.int .i64 ((rd_T87 l1 x22_2).f0), .string ((rd_T87 l1 x22_2).f1.f0), .string ((rd_T87 l1 x22_2).f1.f1.f0), .int .i64 ((rd_T87 l1 x22_2).f1.f1.f1), .int .i64 0]) ?_ 4 _ rfl; (with_reducible repeat (first | refine blk_drewN ?_ _ | refine blk_drew ?_ | refine blk_alloc ?_ _)); refine blk_put (cs := #[.int .i64 ((rd_T87 l1 x22_2).f0), .string ((rd_T87 l1 x22_2).f1.f0), .string ((rd_T87 l1 x22_2).f1.f1.f0), .int .i64 0, .int .i64 0]) ?_ 3 _ rfl; (with_reducible repeat (first | refine blk_drewN ?_ _ | refine blk_drew ?_ | refine blk_alloc ?_ _)); refine blk_put (cs := #[.int .i64 ((rd_T87 l1 x22_2).f0), .string ((rd_T87 l1 x22_2).f1.f0), .string (⟨#[]⟩ : ByteArray), .int .i64 0, .int .i64 0]) ?_ 2 _ rfl; (with_reducible repeat (first | refine blk_drewN ?_ _ | refine blk_drew ?_ | refine blk_alloc ?_ _)); refine blk_put (cs := #[.int .i64 ((rd_T87 l1 x22_2).f0), .string (⟨#[]⟩ : ByteArray), .string (⟨#[]⟩ : ByteArray), .int .i64 0, .int .i64 0]) ?_ 1 _ rfl; (with_reducible repeat (first | refine blk_drewN ?_ _ | refine blk_drew ?_ | refine blk_alloc ?_ _)); refine blk_put (cs := #[.int .i64 0, .string (⟨#[]⟩ : ByteArray), .string (⟨#[]⟩ : ByteArray), .int .i64 0, .int .i64 0]) ?_ 0 _ rfl; (with_reducible repeat (first | refine blk_drewN ?_ _ | refine blk_drew ?_ | refine blk_alloc ?_ _)); exact BK107.out) hb); have n2_ := Aside0.mk (below_step (by repeat (first | (with_reducible first | exact HB.out | apply below_alloc | apply pw_below_drewN | apply below_drew1 | refine below_set ?_ GE107.out) | exact HB.out)) hb); clear HO_6; clear BK107; clear HB; have HO_6 := n0_; have BK107 := n1_; have HB := n2_; clear n0_ n1_ n2_; (try clear hb); (try clear hb2); (try clear hk); (try clear hi))))
                  (try simp only [Act.put, List.setIfInBounds_toArray, List.set_cons_zero, List.set_cons_succ])
                  go_cut [39] (fun v39 wc => ∃ (kq : Nat) (x39_16 : Bool), v39 = .bool x39_16 ∧ Aside0 (impl_ApplyChanges.j2 kq x6_2 t108 t109 l1 (l1.length : Int) x22_2 x39_16 ((rd_T87 l1 x22_2).f0) ((rd_T87 l1 x22_2).f1.f0) ((rd_T87 l1 x22_2).f1.f1.f0) ((rd_T87 l1 x22_2).f1.f1.f1) ((rd_T87 l1 x22_2).f1.f1.f2) = some (r1, r2)) ∧ Aside0 (kq ≤ k2) ∧ Aside0 (Kd.R k71 71 wc w.heap.size (fun _ => True) (.slice Ao20 x6_2.length co20) x6_2) ∧ Aside0 (wc.heap[gb107]? = some (.cells #[.int .i64 ((rd_T87 l1 x22_2).f0), .string ((rd_T87 l1 x22_2).f1.f0), .string ((rd_T87 l1 x22_2).f1.f1.f0), .int .i64 ((rd_T87 l1 x22_2).f1.f1.f1), .int .i64 ((rd_T87 l1 x22_2).f1.f1.f2)] 87 (0, 0))) ∧ Aside0 (Below w.heap.size w wc))
                  case first =>
                    have H := HC17.out
                    clear HC17
                    by_cases c22 : ((rd_T87 l1 x22_2).f0) = 1
                    · rw [if_pos c22] at H
                      have c22b0 : (((rd_T87 l1 x22_2).f0) == 1) = true := beq_iff_eq.mpr c22
                      have c22b1 : (((rd_T87 l1 x22_2).f0) != 1) = false := bne_eq_false_iff_eq.mpr c22
                      clear c22
                      (first | rw [c22b0] | (simp only [i64_w, i32_w]; rw [c22b0]) | (simp only [c22b2, Bool.not_true, Bool.not_false]) | (simp only [c22b1, Bool.not_true, Bool.not_false]) | (simp only [c22b0, Bool.not_true, Bool.not_false]) | skip)
                      have H' := Aside0.mk H
                      clear H
                      have hcz23_0 : w21.cell? ⟨gb107, 0, none⟩ = some (.int .i64 ((rd_T87 l1 x22_2).f0)) := (blk_cell BK107.out 0).trans rfl
                      have hcz23_1 : w21.cell? ⟨gb107, 1, none⟩ = some (.string ((rd_T87 l1 x22_2).f1.f0)) := (blk_cell BK107.out 1).trans rfl
                      have hcz23_2 : w21.cell? ⟨gb107, 2, none⟩ = some (.string ((rd_T87 l1 x22_2).f1.f1.f0)) := (blk_cell BK107.out 2).trans rfl
                      have hcz23_3 : w21.cell? ⟨gb107, 3, none⟩ = some (.int .i64 ((rd_T87 l1 x22_2).f1.f1.f1)) := (blk_cell BK107.out 3).trans rfl
                      have hcz23_4 : w21.cell? ⟨gb107, 4, none⟩ = some (.int .i64 ((rd_T87 l1 x22_2).f1.f1.f2)) := (blk_cell BK107.out 4).trans rfl
                      have hfz23_0 := blk_frozen BK107.out 0
                      have hfz23_1 := blk_frozen BK107.out 1
                      have hfz23_2 := blk_frozen BK107.out 2
                      have hfz23_3 := blk_frozen BK107.out 3
                      have hfz23_4 := blk_frozen BK107.out 4
                      go_wp2
                      repeat (go_quiet (fail); try go_wp2)
                      go_meet
                      case rel => exact ⟨_, (t109), (by first | rfl | (simp; done) | (simp [*]; done)), H', ⟨by have := HJ2.out; have := HK2.out; first | omega | exact Nat.le_refl _⟩, ⟨by (with_reducible repeat (first | apply Kd.R_alloc | apply Kd.R_drewN | apply Kd.R_drew)); exact HO_6.out⟩, ⟨by (with_reducible repeat (first | refine blk_drewN ?_ _ | refine blk_drew ?_ | refine blk_alloc ?_ _)); exact BK107.out⟩, ⟨by repeat (first | (with_reducible first | exact HB.out | apply below_alloc | apply pw_below_drewN | apply below_drew1 | refine below_set ?_ GE107.out) | exact HB.out)⟩⟩
                    · rw [if_neg c22] at H
                      have c22b0 : (((rd_T87 l1 x22_2).f0) == 1) = false := beq_eq_false_iff_ne.mpr c22
                      have c22b1 : (((rd_T87 l1 x22_2).f0) != 1) = true := bne_iff_ne.mpr c22
                      (first | rw [c22b0] | (simp only [i64_w, i32_w]; rw [c22b0]) | (simp only [c22b2, Bool.not_true, Bool.not_false]) | (simp only [c22b1, Bool.not_true, Bool.not_false]) | (simp only [c22b0, Bool.not_true, Bool.not_false]) | skip)
                      have H' := Aside0.mk H
                      clear H
                      have hcz24_0 : w21.cell? ⟨gb107, 0, none⟩ = some (.int .i64 ((rd_T87 l1 x22_2).f0)) := (blk_cell BK107.out 0).trans rfl
                      have hcz24_1 : w21.cell? ⟨gb107, 1, none⟩ = some (.string ((rd_T87 l1 x22_2).f1.f0)) := (blk_cell BK107.out 1).trans rfl
                      have hcz24_2 : w21.cell? ⟨gb107, 2, none⟩ = some (.string ((rd_T87 l1 x22_2).f1.f1.f0)) := (blk_cell BK107.out 2).trans rfl
                      have hcz24_3 : w21.cell? ⟨gb107, 3, none⟩ = some (.int .i64 ((rd_T87 l1 x22_2).f1.f1.f1)) := (blk_cell BK107.out 3).trans rfl
                      have hcz24_4 : w21.cell? ⟨gb107, 4, none⟩ = some (.int .i64 ((rd_T87 l1 x22_2).f1.f1.f2)) := (blk_cell BK107.out 4).trans rfl
                      have hfz24_0 := blk_frozen BK107.out 0
                      have hfz24_1 := blk_frozen BK107.out 1
                      have hfz24_2 := blk_frozen BK107.out 2
                      have hfz24_3 := blk_frozen BK107.out 3
                      have hfz24_4 := blk_frozen BK107.out 4
                      go_wp2
                      repeat (go_quiet (fail); try go_wp2)
                      go_meet
                      case rel => exact ⟨_, (false), (by first | rfl | (simp; done) | (simp [*]; done)), H', ⟨by have := HJ2.out; have := HK2.out; first | omega | exact Nat.le_refl _⟩, ⟨by (with_reducible repeat (first | apply Kd.R_alloc | apply Kd.R_drewN | apply Kd.R_drew)); exact HO_6.out⟩, ⟨by (with_reducible repeat (first | refine blk_drewN ?_ _ | refine blk_drew ?_ | refine blk_alloc ?_ _)); exact BK107.out⟩, ⟨by repeat (first | (with_reducible first | exact HB.out | apply below_alloc | apply pw_below_drewN | apply below_drew1 | refine below_set ?_ GE107.out) | exact HB.out)⟩⟩
                  case rest =>
                    clear HC17
                    try clear c1
                    try clear p1
                    try clear q1
                    try clear hx1
                    try clear c2
                    try clear p2
                    try clear c4
                    try clear c5
                    try clear c10
                    try clear p10
                    try clear q10
                    try clear hx10
                    try clear c13
                    try clear c13b0
                    try clear c14
                    try clear c14b0
                    try clear c15
                    try clear c15b0
                    try clear c22
                    try clear c22b0
                    try clear c22b1
                    try clear c22b2
                    try clear hcz19_0
                    try clear hcz19_1
                    try clear hcz19_2
                    try clear hcz19_3
                    try clear hcz19_4
                    try clear hcz23_0
                    try clear hcz23_1
                    try clear hcz23_2
                    try clear hcz23_3
                    try clear hcz23_4
                    try clear hcz24_0
                    try clear hcz24_1
                    try clear hcz24_2
                    try clear hcz24_3
                    try clear hcz24_4
                    try clear hfz19_0
                    try clear hfz19_1
                    try clear hfz19_2
                    try clear hfz19_3
                    try clear hfz19_4
                    try clear hfz23_0
                    try clear hfz23_1
                    try clear hfz23_2
                    try clear hfz23_3
                    try clear hfz23_4
                    try clear hfz24_0
                    try clear hfz24_1
                    try clear hfz24_2
                    try clear hfz24_3
                    try clear hfz24_4
                    try clear hx106_0
                    try clear hx106_1
                    try clear hx106_2
                    try clear hx106_3
                    try clear hx106_4
                    try clear p106
                    try clear p2
                    try clear q106
                    obtain ⟨kq, x39_16, rfl, HA, HJ16, HO_6, BK107, HB⟩ := hcut
                    cases kq with
                    | zero => exact absurd HA.out (by simp [impl_ApplyChanges.j2])
                    | succ kj16 =>
                      have H := HA.out
                      clear HA
                      simp only [impl_ApplyChanges.j2] at H
                      by_cases c25 : x39_16 = true
                      · subst c25
                        have H1 : (if 0 ≤ t108 then (if t108 < (x6_2.length : Int) then (impl_ApplyChanges.l0 kj16 (x6_2.set (t108 : Int).toNat (⟨((rd_T87 l1 x22_2).f1.f0), (⟨((rd_T87 l1 x22_2).f1.f1.f0), ((rd_T87 l1 x22_2).f1.f1.f1), ((rd_T87 l1 x22_2).f1.f1.f2)⟩ : S69)⟩ : S71)) l1 (l1.length : Int) (wrap64 (x22_2 + 1))) else (none)) else (none)) = some (r1, r2) := by rw [if_pos rfl] at H; exact H
                        clear H
                        have H := H1
                        clear H1
                        by_cases c26 : 0 ≤ t108
                        · rw [if_pos c26] at H
                          have c26b0 : decide (0 ≤ t108) = true := decide_eq_true c26
                          clear c26
                          by_cases c27 : t108 < (x6_2.length : Int)
                          · rw [if_pos c27] at H
                            have c27b0 : decide (t108 < (x6_2.length : Int)) = true := decide_eq_true c27
                            clear c27
                            obtain ⟨y110, hy110⟩ : ∃ y_ : List (S71), y_ = (x6_2.set (t108 : Int).toNat (⟨((rd_T87 l1 x22_2).f1.f0), (⟨((rd_T87 l1 x22_2).f1.f1.f0), ((rd_T87 l1 x22_2).f1.f1.f1), ((rd_T87 l1 x22_2).f1.f1.f2)⟩ : S69)⟩ : S71)) := ⟨_, rfl⟩
                            replace H : (impl_ApplyChanges.l0 kj16 y110 l1 (l1.length : Int) (wrap64 (x22_2 + 1))) = some (r1, r2) := by first | (rw [hy110]; with_reducible exact H) | (have H2_ := (Option.bind_some _ _).symm.trans H; rw [hy110]; with_reducible exact H2_) | (have H2_ := (Option.bind_some _ _).symm.trans H; with_reducible exact H2_) | with_reducible exact H | (rw [hy110]; exact H) | exact H
                            have Ny110 := Aside0.mk hy110
                            clear hy110
                            have H' := Aside0.mk H
                            clear H
                            have hcz29_0 : wc.cell? ⟨gb107, 0, none⟩ = some (.int .i64 ((rd_T87 l1 x22_2).f0)) := (blk_cell BK107.out 0).trans rfl
                            have hcz29_1 : wc.cell? ⟨gb107, 1, none⟩ = some (.string ((rd_T87 l1 x22_2).f1.f0)) := (blk_cell BK107.out 1).trans rfl
                            have hcz29_2 : wc.cell? ⟨gb107, 2, none⟩ = some (.string ((rd_T87 l1 x22_2).f1.f1.f0)) := (blk_cell BK107.out 2).trans rfl
                            have hcz29_3 : wc.cell? ⟨gb107, 3, none⟩ = some (.int .i64 ((rd_T87 l1 x22_2).f1.f1.f1)) := (blk_cell BK107.out 3).trans rfl
                            have hcz29_4 : wc.cell? ⟨gb107, 4, none⟩ = some (.int .i64 ((rd_T87 l1 x22_2).f1.f1.f2)) := (blk_cell BK107.out 4).trans rfl
                            have hfz29_0 := blk_frozen BK107.out 0
                            have hfz29_1 := blk_frozen BK107.out 1
                            have hfz29_2 := blk_frozen BK107.out 2
                            have hfz29_3 := blk_frozen BK107.out 3
                            have hfz29_4 := blk_frozen BK107.out 4
                            have p28 : 0 ≤ (t108 : Int) := of_decide_eq_true (by first | (with_reducible assumption) | assumption)
                            have q28 : (t108 : Int) < ((x6_2.length : Int) : Int) := of_decide_eq_true (by first | (with_reducible assumption) | assumption)
                            obtain ⟨go28, co28, eo28, gb28, gl28, cl28, HG28⟩ := Kd.R_form HO_6.out (by omega)
                            (first | cases eo28 | (injection eo28 with ea_ en_ ec_; (first | subst ea_ | (injection ea_ with ea_; subst ea_)); subst ec_; clear en_))
                            have GB28 := Aside0.mk gb28
                            have GG28 := Aside0.mk HG28
                            clear gb28 gl28 HG28
                            obtain ⟨ce28, hcl28, hM28, hcc28, hfr28⟩ := Kd.R_elem HO_6.out z71 (t108 : Int) p28 q28
                            obtain rfl := k71_openM hM28
                            have hx28_0 : wc.cell? ⟨go28, (t108 : Int).toNat * 4, none⟩ = some (.string ((rd_T71 x6_2 t108).f0)) := hcc28 0 _ rfl
                            have hx28_1 : wc.cell? ⟨go28, (t108 : Int).toNat * 4 + 1, none⟩ = some (.string ((rd_T71 x6_2 t108).f1.f0)) := hcc28 1 _ rfl
                            have hx28_2 : wc.cell? ⟨go28, (t108 : Int).toNat * 4 + 2, none⟩ = some (.int .i64 ((rd_T71 x6_2 t108).f1.f1)) := hcc28 2 _ rfl
                            have hx28_3 : wc.cell? ⟨go28, (t108 : Int).toNat * 4 + 3, none⟩ = some (.int .i64 ((rd_T71 x6_2 t108).f1.f2)) := hcc28 3 _ rfl
                            have hf28_0 : wc.frozen? ⟨go28, (t108 : Int).toNat * 4, none⟩ = false := hfr28 0
                            have hf28_1 : wc.frozen? ⟨go28, (t108 : Int).toNat * 4 + 1, none⟩ = false := hfr28 1
                            have hf28_2 : wc.frozen? ⟨go28, (t108 : Int).toNat * 4 + 2, none⟩ = false := hfr28 2
                            have hf28_3 : wc.frozen? ⟨go28, (t108 : Int).toNat * 4 + 3, none⟩ = false := hfr28 3
                            clear hcl28 hcc28 hfr28 hM28
                            replace p28 := eq_true p28
                            replace q28 := eq_true q28
                            have HX30 := Aside0.mk (show Kd.R k71 71 wc w.heap.size (fun _ => True) (.slice (some ⟨go28, 0, none⟩) x6_2.length co20) x6_2 from (by (with_reducible repeat (first | apply Kd.R_alloc | apply Kd.R_drewN | apply Kd.R_drew)); exact HO_6.out))
                            obtain ⟨ce30, hcl30, hM30, hcc30, hfr30⟩ := Kd.R_elem HX30.out z71 (t108 : Int) (of_decide_eq_true (by first | (with_reducible assumption) | assumption)) (by have h_ : (t108 : Int) < ((x6_2.length : Int) : Int) := of_decide_eq_true (by first | (with_reducible assumption) | assumption); first | exact h_ | (have e_ := (Kd.R_reads' HO_6.out).1; omega) | simpa using h_)
                            obtain rfl := k71_openM hM30
                            have HP30 := Kd.R_seg HX30.out (t108 : Int) (of_decide_eq_true (by first | (with_reducible assumption) | assumption)) (by have h_ : (t108 : Int) < ((x6_2.length : Int) : Int) := of_decide_eq_true (by first | (with_reducible assumption) | assumption); first | exact h_ | (have e_ := (Kd.R_reads' HO_6.out).1; omega) | simpa using h_) (seg := [.string ((rd_T87 l1 x22_2).f1.f0), .string ((rd_T87 l1 x22_2).f1.f1.f0), .int .i64 ((rd_T87 l1 x22_2).f1.f1.f1), .int .i64 ((rd_T87 l1 x22_2).f1.f1.f2)]) (j := 0) hcl30 hcc30 (show 4 ≤ 4 from by decide) (x' := (⟨((rd_T87 l1 x22_2).f1.f0), (⟨((rd_T87 l1 x22_2).f1.f1.f0), ((rd_T87 l1 x22_2).f1.f1.f1), ((rd_T87 l1 x22_2).f1.f1.f2)⟩ : S69)⟩ : S71)) (k71_mkM _ _ _ (⟨((rd_T87 l1 x22_2).f1.f0), (⟨((rd_T87 l1 x22_2).f1.f1.f0), ((rd_T87 l1 x22_2).f1.f1.f1), ((rd_T87 l1 x22_2).f1.f1.f2)⟩ : S69)⟩ : S71) ) (fun _ hk => hk)
                            have hx30_0 := hcc30 0 _ rfl
                            (try simp only [show (k71).sz = 4 from rfl, Nat.mul_one, Nat.add_zero] at hx30_0)
                            have hf30_0 := hfr30 0
                            (try simp only [show (k71).sz = 4 from rfl, Nat.mul_one, Nat.add_zero] at hf30_0)
                            have hx30_1 := hcc30 1 _ rfl
                            (try simp only [show (k71).sz = 4 from rfl, Nat.mul_one, Nat.add_zero] at hx30_1)
                            have hf30_1 := hfr30 1
                            (try simp only [show (k71).sz = 4 from rfl, Nat.mul_one, Nat.add_zero] at hf30_1)
                            have hx30_2 := hcc30 2 _ rfl
                            (try simp only [show (k71).sz = 4 from rfl, Nat.mul_one, Nat.add_zero] at hx30_2)
                            have hf30_2 := hfr30 2
                            (try simp only [show (k71).sz = 4 from rfl, Nat.mul_one, Nat.add_zero] at hf30_2)
                            have hx30_3 := hcc30 3 _ rfl
                            (try simp only [show (k71).sz = 4 from rfl, Nat.mul_one, Nat.add_zero] at hx30_3)
                            have hf30_3 := hfr30 3
                            (try simp only [show (k71).sz = 4 from rfl, Nat.mul_one, Nat.add_zero] at hf30_3)
                            clear hcl30 hcc30 hfr30 hM30
                            go_wp2_with (first | ((with_reducible refine gate_store (t := 71) (p := 50) rfl ?_); (try (rw [drewN_self wc]; generalize hq_ : World.drewN wc _ = wc; have n0_ := Aside0.mk (Kd.R_at hq_ HO_6.out); have n1_ := Aside0.mk (blk_at hq_ BK107.out); have n2_ := Aside0.mk (below_at hq_ HB.out); clear hq_ HO_6 BK107 HB; have HO_6 := n0_; have BK107 := n1_; have HB := n2_; clear n0_ n1_ n2_; (try (have HX30 := Aside0.mk (show Kd.R k71 71 wc w.heap.size (fun _ => True) (.slice (some ⟨go28, 0, none⟩) x6_2.length co20) x6_2 from (by (with_reducible repeat (first | apply Kd.R_alloc | apply Kd.R_drewN | apply Kd.R_drew)); exact HO_6.out)))); (try (obtain ⟨ce30, hcl30, hM30, hcc30, hfr30⟩ := Kd.R_elem HX30.out z71 (t108 : Int) (of_decide_eq_true (by first | (with_reducible assumption) | assumption)) (by have h_ : (t108 : Int) < ((x6_2.length : Int) : Int) := of_decide_eq_true (by first | (with_reducible assumption) | assumption); first | exact h_ | (have e_ := (Kd.R_reads' HO_6.out).1; omega) | simpa using h_))); (try (obtain rfl := k71_openM hM30)); (try (have HP30 := Kd.R_seg HX30.out (t108 : Int) (of_decide_eq_true (by first | (with_reducible assumption) | assumption)) (by have h_ : (t108 : Int) < ((x6_2.length : Int) : Int) := of_decide_eq_true (by first | (with_reducible assumption) | assumption); first | exact h_ | (have e_ := (Kd.R_reads' HO_6.out).1; omega) | simpa using h_) (seg := [.string ((rd_T87 l1 x22_2).f1.f0), .string ((rd_T87 l1 x22_2).f1.f1.f0), .int .i64 ((rd_T87 l1 x22_2).f1.f1.f1), .int .i64 ((rd_T87 l1 x22_2).f1.f1.f2)]) (j := 0) hcl30 hcc30 (show 4 ≤ 4 from by decide) (x' := (⟨((rd_T87 l1 x22_2).f1.f0), (⟨((rd_T87 l1 x22_2).f1.f1.f0), ((rd_T87 l1 x22_2).f1.f1.f1), ((rd_T87 l1 x22_2).f1.f1.f2)⟩ : S69)⟩ : S71)) (k71_mkM _ _ _ (⟨((rd_T87 l1 x22_2).f1.f0), (⟨((rd_T87 l1 x22_2).f1.f1.f0), ((rd_T87 l1 x22_2).f1.f1.f1), ((rd_T87 l1 x22_2).f1.f1.f2)⟩ : S69)⟩ : S71) ) (fun _ hk => hk))); (try (have hx30_0 := hcc30 0 _ rfl)); (try (try simp only [show (k71).sz = 4 from rfl, Nat.mul_one, Nat.add_zero] at hx30_0)); (try (have hf30_0 := hfr30 0)); (try (try simp only [show (k71).sz = 4 from rfl, Nat.mul_one, Nat.add_zero] at hf30_0)); (try (have hx30_1 := hcc30 1 _ rfl)); (try (try simp only [show (k71).sz = 4 from rfl, Nat.mul_one, Nat.add_zero] at hx30_1)); (try (have hf30_1 := hfr30 1)); (try (try simp only [show (k71).sz = 4 from rfl, Nat.mul_one, Nat.add_zero] at hf30_1)); (try (have hx30_2 := hcc30 2 _ rfl)); (try (try simp only [show (k71).sz = 4 from rfl, Nat.mul_one, Nat.add_zero] at hx30_2)); (try (have hf30_2 := hfr30 2)); (try (try simp only [show (k71).sz = 4 from rfl, Nat.mul_one, Nat.add_zero] at hf30_2)); (try (have hx30_3 := hcc30 3 _ rfl)); (try (try simp only [show (k71).sz = 4 from rfl, Nat.mul_one, Nat.add_zero] at hx30_3)); (try (have hf30_3 := hfr30 3)); (try (try simp only [show (k71).sz = 4 from rfl, Nat.mul_one, Nat.add_zero] at hf30_3)); (try (clear hcl30 hcc30 hfr30 hM30)))); refine store_event (t := 71) (p := 50) (v := ?vo_w31) (w1 := ((((wc.setCell ⟨go28, (t108 : Int).toNat * 4, none⟩ (.string ((rd_T87 l1 x22_2).f1.f0))).setCell ⟨go28, (t108 : Int).toNat * 4 + 1, none⟩ (.string ((rd_T87 l1 x22_2).f1.f1.f0))).setCell ⟨go28, (t108 : Int).toNat * 4 + 2, none⟩ (.int .i64 ((rd_T87 l1 x22_2).f1.f1.f1))).setCell ⟨go28, (t108 : Int).toNat * 4 + 3, none⟩ (.int .i64 ((rd_T87 l1 x22_2).f1.f1.f2)))) ?hg ?ho ?hn ?hr ?_; (case ho => rfl); (case hg => rfl); (case hn => rfl); (case hr => first | (go_simp; done) | (go_simp; rfl)); intro w31 hw; have hg : wc.grownBy w31 (some go28) := (by rw [hw]; exact HP30.2); have hp_ : Kd.R k71 71 w31 w.heap.size (fun _ => True) (.slice (some ⟨go28, 0, none⟩) x6_2.length co20) y110 := (by rw [hw, Ny110.out]; exact HP30.1); clear HP30; have n0_ := Aside0.mk (hp_); have n1_ := Aside0.mk (blk_grown (g := gb107) (o := .cells #[.int .i64 ((rd_T87 l1 x22_2).f0), .string ((rd_T87 l1 x22_2).f1.f0), .string ((rd_T87 l1 x22_2).f1.f1.f0), .int .i64 ((rd_T87 l1 x22_2).f1.f1.f1), .int .i64 ((rd_T87 l1 x22_2).f1.f1.f2)] 87 (0, 0)) (by (with_reducible repeat (first | refine blk_drewN ?_ _ | refine blk_drew ?_ | refine blk_alloc ?_ _)); exact BK107.out) hg (Kd.R_ne HO_6.out BK107.out (by decide))); have n2_ := Aside0.mk ((by rw [hw]; exact below_set (below_set (below_set (below_set (HB.out) GB28.out) GB28.out) GB28.out) GB28.out : Below w.heap.size w w31)); clear HO_6; clear BK107; clear HB; have HO_6 := n0_; have BK107 := n1_; have HB := n2_; clear n0_ n1_ n2_; clear hg hw hp_))
                            repeat (go_quiet (first | ((with_reducible refine gate_store (t := 71) (p := 50) rfl ?_); (try (rw [drewN_self wc]; generalize hq_ : World.drewN wc _ = wc; have n0_ := Aside0.mk (Kd.R_at hq_ HO_6.out); have n1_ := Aside0.mk (blk_at hq_ BK107.out); have n2_ := Aside0.mk (below_at hq_ HB.out); clear hq_ HO_6 BK107 HB; have HO_6 := n0_; have BK107 := n1_; have HB := n2_; clear n0_ n1_ n2_; (try (have HX30 := Aside0.mk (show Kd.R k71 71 wc w.heap.size (fun _ => True) (.slice (some ⟨go28, 0, none⟩) x6_2.length co20) x6_2 from (by (with_reducible repeat (first | apply Kd.R_alloc | apply Kd.R_drewN | apply Kd.R_drew)); exact HO_6.out)))); (try (obtain ⟨ce30, hcl30, hM30, hcc30, hfr30⟩ := Kd.R_elem HX30.out z71 (t108 : Int) (of_decide_eq_true (by first | (with_reducible assumption) | assumption)) (by have h_ : (t108 : Int) < ((x6_2.length : Int) : Int) := of_decide_eq_true (by first | (with_reducible assumption) | assumption); first | exact h_ | (have e_ := (Kd.R_reads' HO_6.out).1; omega) | simpa using h_))); (try (obtain rfl := k71_openM hM30)); (try (have HP30 := Kd.R_seg HX30.out (t108 : Int) (of_decide_eq_true (by first | (with_reducible assumption) | assumption)) (by have h_ : (t108 : Int) < ((x6_2.length : Int) : Int) := of_decide_eq_true (by first | (with_reducible assumption) | assumption); first | exact h_ | (have e_ := (Kd.R_reads' HO_6.out).1; omega) | simpa using h_) (seg := [.string ((rd_T87 l1 x22_2).f1.f0), .string ((rd_T87 l1 x22_2).f1.f1.f0), .int .i64 ((rd_T87 l1 x22_2).f1.f1.f1), .int .i64 ((rd_T87 l1 x22_2).f1.f1.f2)]) (j := 0) hcl30 hcc30 (show 4 ≤ 4 from by decide) (x' := (⟨((rd_T87 l1 x22_2).f1.f0), (⟨((rd_T87 l1 x22_2).f1.f1.f0), ((rd_T87 l1 x22_2).f1.f1.f1), ((rd_T87 l1 x22_2).f1.f1.f2)⟩ : S69)⟩ : S71)) (k71_mkM _ _ _ (⟨((rd_T87 l1 x22_2).f1.f0), (⟨((rd_T87 l1 x22_2).f1.f1.f0), ((rd_T87 l1 x22_2).f1.f1.f1), ((rd_T87 l1 x22_2).f1.f1.f2)⟩ : S69)⟩ : S71) ) (fun _ hk => hk))); (try (have hx30_0 := hcc30 0 _ rfl)); (try (try simp only [show (k71).sz = 4 from rfl, Nat.mul_one, Nat.add_zero] at hx30_0)); (try (have hf30_0 := hfr30 0)); (try (try simp only [show (k71).sz = 4 from rfl, Nat.mul_one, Nat.add_zero] at hf30_0)); (try (have hx30_1 := hcc30 1 _ rfl)); (try (try simp only [show (k71).sz = 4 from rfl, Nat.mul_one, Nat.add_zero] at hx30_1)); (try (have hf30_1 := hfr30 1)); (try (try simp only [show (k71).sz = 4 from rfl, Nat.mul_one, Nat.add_zero] at hf30_1)); (try (have hx30_2 := hcc30 2 _ rfl)); (try (try simp only [show (k71).sz = 4 from rfl, Nat.mul_one, Nat.add_zero] at hx30_2)); (try (have hf30_2 := hfr30 2)); (try (try simp only [show (k71).sz = 4 from rfl, Nat.mul_one, Nat.add_zero] at hf30_2)); (try (have hx30_3 := hcc30 3 _ rfl)); (try (try simp only [show (k71).sz = 4 from rfl, Nat.mul_one, Nat.add_zero] at hx30_3)); (try (have hf30_3 := hfr30 3)); (try (try simp only [show (k71).sz = 4 from rfl, Nat.mul_one, Nat.add_zero] at hf30_3)); (try (clear hcl30 hcc30 hfr30 hM30)))); refine store_event (t := 71) (p := 50) (v := ?vo_w31) (w1 := ((((wc.setCell ⟨go28, (t108 : Int).toNat * 4, none⟩ (.string ((rd_T87 l1 x22_2).f1.f0))).setCell ⟨go28, (t108 : Int).toNat * 4 + 1, none⟩ (.string ((rd_T87 l1 x22_2).f1.f1.f0))).setCell ⟨go28, (t108 : Int).toNat * 4 + 2, none⟩ (.int .i64 ((rd_T87 l1 x22_2).f1.f1.f1))).setCell ⟨go28, (t108 : Int).toNat * 4 + 3, none⟩ (.int .i64 ((rd_T87 l1 x22_2).f1.f1.f2)))) ?hg ?ho ?hn ?hr ?_; (case ho => rfl); (case hg => rfl); (case hn => rfl); (case hr => first | (go_simp; done) | (go_simp; rfl)); intro w31 hw; have hg : wc.grownBy w31 (some go28) := (by rw [hw]; exact HP30.2); have hp_ : Kd.R k71 71 w31 w.heap.size (fun _ => True) (.slice (some ⟨go28, 0, none⟩) x6_2.length co20) y110 := (by rw [hw, Ny110.out]; exact HP30.1); clear HP30; have n0_ := Aside0.mk (hp_); have n1_ := Aside0.mk (blk_grown (g := gb107) (o := .cells #[.int .i64 ((rd_T87 l1 x22_2).f0), .string ((rd_T87 l1 x22_2).f1.f0), .string ((rd_T87 l1 x22_2).f1.f1.f0), .int .i64 ((rd_T87 l1 x22_2).f1.f1.f1), .int .i64 ((rd_T87 l1 x22_2).f1.f1.f2)] 87 (0, 0)) (by (with_reducible repeat (first | refine blk_drewN ?_ _ | refine blk_drew ?_ | refine blk_alloc ?_ _)); exact BK107.out) hg (Kd.R_ne HO_6.out BK107.out (by decide))); have n2_ := Aside0.mk ((by rw [hw]; exact below_set (below_set (below_set (below_set (HB.out) GB28.out) GB28.out) GB28.out) GB28.out : Below w.heap.size w w31)); clear HO_6; clear BK107; clear HB; have HO_6 := n0_; have BK107 := n1_; have HB := n2_; clear n0_ n1_ n2_; clear hg hw hp_)); try go_wp2_with (first | ((with_reducible refine gate_store (t := 71) (p := 50) rfl ?_); (try (rw [drewN_self wc]; generalize hq_ : World.drewN wc _ = wc; have n0_ := Aside0.mk (Kd.R_at hq_ HO_6.out); have n1_ := Aside0.mk (blk_at hq_ BK107.out); have n2_ := Aside0.mk (below_at hq_ HB.out); clear hq_ HO_6 BK107 HB; have HO_6 := n0_; have BK107 := n1_; have HB := n2_; clear n0_ n1_ n2_; (try (have HX30 := Aside0.mk (show Kd.R k71 71 wc w.heap.size (fun _ => True) (.slice (some ⟨go28, 0, none⟩) x6_2.length co20) x6_2 from (by (with_reducible repeat (first | apply Kd.R_alloc | apply Kd.R_drewN | apply Kd.R_drew)); exact HO_6.out)))); (try (obtain ⟨ce30, hcl30, hM30, hcc30, hfr30⟩ := Kd.R_elem HX30.out z71 (t108 : Int) (of_decide_eq_true (by first | (with_reducible assumption) | assumption)) (by have h_ : (t108 : Int) < ((x6_2.length : Int) : Int) := of_decide_eq_true (by first | (with_reducible assumption) | assumption); first | exact h_ | (have e_ := (Kd.R_reads' HO_6.out).1; omega) | simpa using h_))); (try (obtain rfl := k71_openM hM30)); (try (have HP30 := Kd.R_seg HX30.out (t108 : Int) (of_decide_eq_true (by first | (with_reducible assumption) | assumption)) (by have h_ : (t108 : Int) < ((x6_2.length : Int) : Int) := of_decide_eq_true (by first | (with_reducible assumption) | assumption); first | exact h_ | (have e_ := (Kd.R_reads' HO_6.out).1; omega) | simpa using h_) (seg := [.string ((rd_T87 l1 x22_2).f1.f0), .string ((rd_T87 l1 x22_2).f1.f1.f0), .int .i64 ((rd_T87 l1 x22_2).f1.f1.f1), .int .i64 ((rd_T87 l1 x22_2).f1.f1.f2)]) (j := 0) hcl30 hcc30 (show 4 ≤ 4 from by decide) (x' := (⟨((rd_T87 l1 x22_2).f1.f0), (⟨((rd_T87 l1 x22_2).f1.f1.f0), ((rd_T87 l1 x22_2).f1.f1.f1), ((rd_T87 l1 x22_2).f1.f1.f2)⟩ : S69)⟩ : S71)) (k71_mkM _ _ _ (⟨((rd_T87 l1 x22_2).f1.f0), (⟨((rd_T87 l1 x22_2).f1.f1.f0), ((rd_T87 l1 x22_2).f1.f1.f1), ((rd_T87 l1 x22_2).f1.f1.f2)⟩ : S69)⟩ : S71) ) (fun _ hk => hk))); (try (have hx30_0 := hcc30 0 _ rfl)); (try (try simp only [show (k71).sz = 4 from rfl, Nat.mul_one, Nat.add_zero] at hx30_0)); (try (have hf30_0 := hfr30 0)); (try (try simp only [show (k71).sz = 4 from rfl, Nat.mul_one, Nat.add_zero] at hf30_0)); (try (have hx30_1 := hcc30 1 _ rfl)); (try (try simp only [show (k71).sz = 4 from rfl, Nat.mul_one, Nat.add_zero] at hx30_1)); (try (have hf30_1 := hfr30 1)); (try (try simp only [show (k71).sz = 4 from rfl, Nat.mul_one, Nat.add_zero] at hf30_1)); (try (have hx30_2 := hcc30 2 _ rfl)); (try (try simp only [show (k71).sz = 4 from rfl, Nat.mul_one, Nat.add_zero] at hx30_2)); (try (have hf30_2 := hfr30 2)); (try (try simp only [show (k71).sz = 4 from rfl, Nat.mul_one, Nat.add_zero] at hf30_2)); (try (have hx30_3 := hcc30 3 _ rfl)); (try (try simp only [show (k71).sz = 4 from rfl, Nat.mul_one, Nat.add_zero] at hx30_3)); (try (have hf30_3 := hfr30 3)); (try (try simp only [show (k71).sz = 4 from rfl, Nat.mul_one, Nat.add_zero] at hf30_3)); (try (clear hcl30 hcc30 hfr30 hM30)))); refine store_event (t := 71) (p := 50) (v := ?vo_w31) (w1 := ((((wc.setCell ⟨go28, (t108 : Int).toNat * 4, none⟩ (.string ((rd_T87 l1 x22_2).f1.f0))).setCell ⟨go28, (t108 : Int).toNat * 4 + 1, none⟩ (.string ((rd_T87 l1 x22_2).f1.f1.f0))).setCell ⟨go28, (t108 : Int).toNat * 4 + 2, none⟩ (.int .i64 ((rd_T87 l1 x22_2).f1.f1.f1))).setCell ⟨go28, (t108 : Int).toNat * 4 + 3, none⟩ (.int .i64 ((rd_T87 l1 x22_2).f1.f1.f2)))) ?hg ?ho ?hn ?hr ?_; (case ho => rfl); (case hg => rfl); (case hn => rfl); (case hr => first | (go_simp; done) | (go_simp; rfl)); intro w31 hw; have hg : wc.grownBy w31 (some go28) := (by rw [hw]; exact HP30.2); have hp_ : Kd.R k71 71 w31 w.heap.size (fun _ => True) (.slice (some ⟨go28, 0, none⟩) x6_2.length co20) y110 := (by rw [hw, Ny110.out]; exact HP30.1); clear HP30; have n0_ := Aside0.mk (hp_); have n1_ := Aside0.mk (blk_grown (g := gb107) (o := .cells #[.int .i64 ((rd_T87 l1 x22_2).f0), .string ((rd_T87 l1 x22_2).f1.f0), .string ((rd_T87 l1 x22_2).f1.f1.f0), .int .i64 ((rd_T87 l1 x22_2).f1.f1.f1), .int .i64 ((rd_T87 l1 x22_2).f1.f1.f2)] 87 (0, 0)) (by (with_reducible repeat (first | refine blk_drewN ?_ _ | refine blk_drew ?_ | refine blk_alloc ?_ _)); exact BK107.out) hg (Kd.R_ne HO_6.out BK107.out (by decide))); have n2_ := Aside0.mk ((by rw [hw]; exact below_set (below_set (below_set (below_set (HB.out) GB28.out) GB28.out) GB28.out) GB28.out : Below w.heap.size w w31)); clear HO_6; clear BK107; clear HB; have HO_6 := n0_; have BK107 := n1_; have HB := n2_; clear n0_ n1_ n2_; clear hg hw hp_)))
                            go_roundg kj16
                            case measure => have := HJ2.out; have := HK2.out; have := HJ16.out; omega
                            case rel => exact ⟨(y110), (wrap64 (x22_2 + 1)), (by first | rfl | (simp; done) | (simp [*]; done)), H', ⟨by have := HJ2.out; have := HK2.out; have := HJ16.out; omega⟩, ⟨by (with_reducible repeat (first | apply Kd.R_alloc | apply Kd.R_drewN | apply Kd.R_drew)); exact HO_6.out⟩, ⟨by repeat (first | (with_reducible first | exact HB.out | apply below_alloc | apply pw_below_drewN | apply below_drew1 | refine below_set ?_ GE107.out) | exact HB.out)⟩⟩
                          · rw [if_neg c27] at H
                            exact absurd H (by simp)
                        · rw [if_neg c26] at H
                          exact absurd H (by simp)
                      · replace c25 := Bool.eq_false_iff.mpr c25
                        subst c25
                        have H1 : (if ((rd_T87 l1 x22_2).f0) = 1 then (impl_ApplyChanges.j3 kj16 x6_2 t108 t109 l1 (l1.length : Int) x22_2 ((x6_2.length : Int) == 24) ((rd_T87 l1 x22_2).f0) ((rd_T87 l1 x22_2).f1.f0) ((rd_T87 l1 x22_2).f1.f1.f0) ((rd_T87 l1 x22_2).f1.f1.f1) ((rd_T87 l1 x22_2).f1.f1.f2)) else (impl_ApplyChanges.j3 kj16 x6_2 t108 t109 l1 (l1.length : Int) x22_2 false ((rd_T87 l1 x22_2).f0) ((rd_T87 l1 x22_2).f1.f0) ((rd_T87 l1 x22_2).f1.f1.f0) ((rd_T87 l1 x22_2).f1.f1.f1) ((rd_T87 l1 x22_2).f1.f1.f2))) = some (r1, r2) := by rw [if_neg (show ¬ (false = true) by decide)] at H; exact H
                        clear H
                        have H := H1
                        clear H1
                        have HC32 := Aside0.mk H
                        clear H
                        go_upto_region 11 with (fail)
                        repeat (go_quiet (fail); go_upto_region 11 with (fail))
                        go_cut [51] (fun v51 wc => ∃ (kq : Nat) (x51_31 : Bool), v51 = .bool x51_31 ∧ Aside0 (impl_ApplyChanges.j3 kq x6_2 t108 t109 l1 (l1.length : Int) x22_2 x51_31 ((rd_T87 l1 x22_2).f0) ((rd_T87 l1 x22_2).f1.f0) ((rd_T87 l1 x22_2).f1.f1.f0) ((rd_T87 l1 x22_2).f1.f1.f1) ((rd_T87 l1 x22_2).f1.f1.f2) = some (r1, r2)) ∧ Aside0 (kq ≤ kj16) ∧ Aside0 (Kd.R k71 71 wc w.heap.size (fun _ => True) (.slice Ao20 x6_2.length co20) x6_2) ∧ Aside0 (wc.heap[gb107]? = some (.cells #[.int .i64 ((rd_T87 l1 x22_2).f0), .string ((rd_T87 l1 x22_2).f1.f0), .string ((rd_T87 l1 x22_2).f1.f1.f0), .int .i64 ((rd_T87 l1 x22_2).f1.f1.f1), .int .i64 ((rd_T87 l1 x22_2).f1.f1.f2)] 87 (0, 0))) ∧ Aside0 (Below w.heap.size w wc))
                        case first =>
                          have H := HC32.out
                          clear HC32
                          by_cases c33 : ((rd_T87 l1 x22_2).f0) = 1
                          · rw [if_pos c33] at H
                            have c33b0 : (((rd_T87 l1 x22_2).f0) == 1) = true := beq_iff_eq.mpr c33
                            have c33b1 : (((rd_T87 l1 x22_2).f0) != 1) = false := bne_eq_false_iff_eq.mpr c33
                            clear c33
                            (first | rw [c33b0] | (simp only [i64_w, i32_w]; rw [c33b0]) | (simp only [c33b2, Bool.not_true, Bool.not_false]) | (simp only [c33b1, Bool.not_true, Bool.not_false]) | (simp only [c33b0, Bool.not_true, Bool.not_false]) | skip)
                            have H' := Aside0.mk H
                            clear H
                            have hcz34_0 : wc.cell? ⟨gb107, 0, none⟩ = some (.int .i64 ((rd_T87 l1 x22_2).f0)) := (blk_cell BK107.out 0).trans rfl
                            have hcz34_1 : wc.cell? ⟨gb107, 1, none⟩ = some (.string ((rd_T87 l1 x22_2).f1.f0)) := (blk_cell BK107.out 1).trans rfl
                            have hcz34_2 : wc.cell? ⟨gb107, 2, none⟩ = some (.string ((rd_T87 l1 x22_2).f1.f1.f0)) := (blk_cell BK107.out 2).trans rfl
                            have hcz34_3 : wc.cell? ⟨gb107, 3, none⟩ = some (.int .i64 ((rd_T87 l1 x22_2).f1.f1.f1)) := (blk_cell BK107.out 3).trans rfl
                            have hcz34_4 : wc.cell? ⟨gb107, 4, none⟩ = some (.int .i64 ((rd_T87 l1 x22_2).f1.f1.f2)) := (blk_cell BK107.out 4).trans rfl
                            have hfz34_0 := blk_frozen BK107.out 0
                            have hfz34_1 := blk_frozen BK107.out 1
                            have hfz34_2 := blk_frozen BK107.out 2
                            have hfz34_3 := blk_frozen BK107.out 3
                            have hfz34_4 := blk_frozen BK107.out 4
                            go_wp2
                            repeat (go_quiet (fail); try go_wp2)
                            go_meet
                            case rel => exact ⟨_, (((x6_2.length : Int) == 24)), (by first | rfl | (simp; done) | (simp [*]; done)), H', ⟨by have := HJ2.out; have := HK2.out; have := HJ16.out; first | omega | exact Nat.le_refl _⟩, ⟨by (with_reducible repeat (first | apply Kd.R_alloc | apply Kd.R_drewN | apply Kd.R_drew)); exact HO_6.out⟩, ⟨by (with_reducible repeat (first | refine blk_drewN ?_ _ | refine blk_drew ?_ | refine blk_alloc ?_ _)); exact BK107.out⟩, ⟨by repeat (first | (with_reducible first | exact HB.out | apply below_alloc | apply pw_below_drewN | apply below_drew1 | refine below_set ?_ GE107.out) | exact HB.out)⟩⟩
                          · rw [if_neg c33] at H
                            have c33b0 : (((rd_T87 l1 x22_2).f0) == 1) = false := beq_eq_false_iff_ne.mpr c33
                            have c33b1 : (((rd_T87 l1 x22_2).f0) != 1) = true := bne_iff_ne.mpr c33
                            (first | rw [c33b0] | (simp only [i64_w, i32_w]; rw [c33b0]) | (simp only [c33b2, Bool.not_true, Bool.not_false]) | (simp only [c33b1, Bool.not_true, Bool.not_false]) | (simp only [c33b0, Bool.not_true, Bool.not_false]) | skip)
                            have H' := Aside0.mk H
                            clear H
                            have hcz35_0 : wc.cell? ⟨gb107, 0, none⟩ = some (.int .i64 ((rd_T87 l1 x22_2).f0)) := (blk_cell BK107.out 0).trans rfl
                            have hcz35_1 : wc.cell? ⟨gb107, 1, none⟩ = some (.string ((rd_T87 l1 x22_2).f1.f0)) := (blk_cell BK107.out 1).trans rfl
                            have hcz35_2 : wc.cell? ⟨gb107, 2, none⟩ = some (.string ((rd_T87 l1 x22_2).f1.f1.f0)) := (blk_cell BK107.out 2).trans rfl
                            have hcz35_3 : wc.cell? ⟨gb107, 3, none⟩ = some (.int .i64 ((rd_T87 l1 x22_2).f1.f1.f1)) := (blk_cell BK107.out 3).trans rfl
                            have hcz35_4 : wc.cell? ⟨gb107, 4, none⟩ = some (.int .i64 ((rd_T87 l1 x22_2).f1.f1.f2)) := (blk_cell BK107.out 4).trans rfl
                            have hfz35_0 := blk_frozen BK107.out 0
                            have hfz35_1 := blk_frozen BK107.out 1
                            have hfz35_2 := blk_frozen BK107.out 2
                            have hfz35_3 := blk_frozen BK107.out 3
                            have hfz35_4 := blk_frozen BK107.out 4
                            go_wp2
                            repeat (go_quiet (fail); try go_wp2)
                            go_meet
                            case rel => exact ⟨_, (false), (by first | rfl | (simp; done) | (simp [*]; done)), H', ⟨by have := HJ2.out; have := HK2.out; have := HJ16.out; first | omega | exact Nat.le_refl _⟩, ⟨by (with_reducible repeat (first | apply Kd.R_alloc | apply Kd.R_drewN | apply Kd.R_drew)); exact HO_6.out⟩, ⟨by (with_reducible repeat (first | refine blk_drewN ?_ _ | refine blk_drew ?_ | refine blk_alloc ?_ _)); exact BK107.out⟩, ⟨by repeat (first | (with_reducible first | exact HB.out | apply below_alloc | apply pw_below_drewN | apply below_drew1 | refine below_set ?_ GE107.out) | exact HB.out)⟩⟩
                        case rest =>
                          clear HC32
                          try clear c1
                          try clear p1
                          try clear q1
                          try clear hx1
                          try clear c2
                          try clear p2
                          try clear q2
                          try clear hx2
                          try clear hf2
                          try clear c3
                          try clear hx3
                          try clear hf3
                          try clear c4
                          try clear c5
                          try clear p6
                          try clear c10
                          try clear p10
                          try clear q10
                          try clear hx10
                          try clear c13
                          try clear c13b0
                          try clear c14
                          try clear c14b0
                          try clear c15
                          try clear c15b0
                          try clear c22
                          try clear c22b0
                          try clear c22b1
                          try clear c22b2
                          try clear c25
                          try clear c26
                          try clear c26b0
                          try clear c27
                          try clear c27b0
                          try clear c28
                          try clear p28
                          try clear q28
                          try clear hx28
                          try clear hf28
                          try clear c30
                          try clear hx30
                          try clear hf30
                          try clear c33
                          try clear c33b0
                          try clear c33b1
                          try clear c33b2
                          try clear hcz19_0
                          try clear hcz19_1
                          try clear hcz19_2
                          try clear hcz19_3
                          try clear hcz19_4
                          try clear hcz23_0
                          try clear hcz23_1
                          try clear hcz23_2
                          try clear hcz23_3
                          try clear hcz23_4
                          try clear hcz24_0
                          try clear hcz24_1
                          try clear hcz24_2
                          try clear hcz24_3
                          try clear hcz24_4
                          try clear hcz29_0
                          try clear hcz29_1
                          try clear hcz29_2
                          try clear hcz29_3
                          try clear hcz29_4
                          try clear hcz34_0
                          try clear hcz34_1
                          try clear hcz34_2
                          try clear hcz34_3
                          try clear hcz34_4
                          try clear hcz35_0
                          try clear hcz35_1
                          try clear hcz35_2
                          try clear hcz35_3
                          try clear hcz35_4
                          try clear hfz19_0
                          try clear hfz19_1
                          try clear hfz19_2
                          try clear hfz19_3
                          try clear hfz19_4
                          try clear hfz23_0
                          try clear hfz23_1
                          try clear hfz23_2
                          try clear hfz23_3
                          try clear hfz23_4
                          try clear hfz24_0
                          try clear hfz24_1
                          try clear hfz24_2
                          try clear hfz24_3
                          try clear hfz24_4
                          try clear hfz29_0
                          try clear hfz29_1
                          try clear hfz29_2
                          try clear hfz29_3
                          try clear hfz29_4
                          try clear hfz34_0
                          try clear hfz34_1
                          try clear hfz34_2
                          try clear hfz34_3
                          try clear hfz34_4
                          try clear hfz35_0
                          try clear hfz35_1
                          try clear hfz35_2
                          try clear hfz35_3
                          try clear hfz35_4
                          try clear hx106_0
                          try clear hx106_1
                          try clear hx106_2
                          try clear hx106_3
                          try clear hx106_4
                          try clear hx28_0
                          try clear hx28_1
                          try clear hx28_2
                          try clear hx28_3
                          try clear hx30_0
                          try clear hx30_1
                          try clear hx30_2
                          try clear hx30_3
                          try clear p1
                          try clear p10
                          try clear p106
                          try clear p2
                          try clear p28
                          try clear q1
                          try clear q10
                          try clear q106
                          try clear q28
                          obtain ⟨kq, x51_31, rfl, HA, HJ31, HO_6, BK107, HB⟩ := hcut
                          cases kq with
                          | zero => exact absurd HA.out (by simp [impl_ApplyChanges.j3])
                          | succ kj31 =>
                            have H := HA.out
                            clear HA
                            simp only [impl_ApplyChanges.j3] at H
                            by_cases c36 : x51_31 = true
                            · subst c36
                              have H1 : (some (([] : List (S71)), 5)) = some (r1, r2) := by rw [if_pos rfl] at H; exact H
                              clear H
                              have H := H1
                              clear H1
                              simp only [Option.some.injEq, Prod.mk.injEq] at H
                              obtain ⟨rfl, rfl⟩ := H
                              go_wp2
                              repeat (go_quiet (fail); try go_wp2)
                              go_ret2
                              exact ⟨_, by first | rfl | (simp [errW_none, errW_some] <;> rfl) | (simp [*, errW_none, errW_some] <;> rfl), by first | exact Kd.R_nil _ _ _ _ _ | exact Kd.N_nil _ _ _ _ _ | exact Kd.V_nil _ _ _ _ _ | exact Kd.Q_nil _ _ _ _ _ | exact Kd.S_nil _ _ _ _ _, by repeat (first | (with_reducible first | exact HB.out | apply below_alloc | apply pw_below_drewN | apply below_drew1 | refine below_set ?_ GE107.out) | exact HB.out)⟩
                            · replace c36 := Bool.eq_false_iff.mpr c36
                              subst c36
                              have H1 : (if ((rd_T87 l1 x22_2).f0) = 1 then ((impl_Entry_89.f x6_2 t108 (([(⟨((rd_T87 l1 x22_2).f1.f0), (⟨((rd_T87 l1 x22_2).f1.f1.f0), ((rd_T87 l1 x22_2).f1.f1.f1), ((rd_T87 l1 x22_2).f1.f1.f2)⟩ : S69)⟩ : S71)] : List (S71)))).bind fun t114 => (impl_ApplyChanges.l0 kj31 t114 l1 (l1.length : Int) (wrap64 (x22_2 + 1)))) else (if t109 = true then (if 0 ≤ t108 then (if t108 < (x6_2.length : Int) then (if (!((((rd_T71 x6_2 t108).f0).toList) == ((rd_T87 l1 x22_2).f1.f0).toList) || ((!((((rd_T71 x6_2 t108).f1.f0).toList) == ((rd_T87 l1 x22_2).f1.f1.f0).toList) || (!(((rd_T71 x6_2 t108).f1.f1) == ((rd_T87 l1 x22_2).f1.f1.f1)) || (!(((rd_T71 x6_2 t108).f1.f2) == ((rd_T87 l1 x22_2).f1.f1.f2))))))) = true then (some (([] : List (S71)), 6)) else ((impl_Entry_90.f x6_2 t108 (wrap64 (t108 + 1))).bind fun t118 => (impl_ApplyChanges.l0 kj31 t118 l1 (l1.length : Int) (wrap64 (x22_2 + 1))))) else (none)) else (none)) else (some (([] : List (S71)), 3)))) = some (r1, r2) := by rw [if_neg (show ¬ (false = true) by decide)] at H; exact H
                              clear H
                              have H := H1
                              clear H1
                              by_cases c37 : ((rd_T87 l1 x22_2).f0) = 1
                              · rw [if_pos c37] at H
                                have c37b0 : (((rd_T87 l1 x22_2).f0) == 1) = true := beq_iff_eq.mpr c37
                                have c37b1 : (((rd_T87 l1 x22_2).f0) != 1) = false := bne_eq_false_iff_eq.mpr c37
                                clear c37
                                obtain ⟨y111, hy111⟩ : ∃ y_ : List (S71), y_ = (([(⟨((rd_T87 l1 x22_2).f1.f0), (⟨((rd_T87 l1 x22_2).f1.f1.f0), ((rd_T87 l1 x22_2).f1.f1.f1), ((rd_T87 l1 x22_2).f1.f1.f2)⟩ : S69)⟩ : S71)] : List (S71))) := ⟨_, rfl⟩
                                replace H : ((impl_Entry_89.f x6_2 t108 y111).bind fun t114 => (impl_ApplyChanges.l0 kj31 t114 l1 (l1.length : Int) (wrap64 (x22_2 + 1)))) = some (r1, r2) := by first | (rw [hy111]; with_reducible exact H) | (have H2_ := (Option.bind_some _ _).symm.trans H; rw [hy111]; with_reducible exact H2_) | (have H2_ := (Option.bind_some _ _).symm.trans H; with_reducible exact H2_) | with_reducible exact H | (rw [hy111]; exact H) | exact H
                                have Ny111 := Aside0.mk hy111
                                clear hy111
                                replace H := Option.bind_eq_some_iff.mp H
                                obtain ⟨t114, A380, H⟩ := H
                                replace H : (impl_ApplyChanges.l0 kj31 t114 l1 (l1.length : Int) (wrap64 (x22_2 + 1))) = some (r1, r2) := H
                                have A38 := Aside0.mk A380
                                clear A380
                                have H' := Aside0.mk H
                                clear H
                                have hcz39_0 : wc.cell? ⟨gb107, 0, none⟩ = some (.int .i64 ((rd_T87 l1 x22_2).f0)) := (blk_cell BK107.out 0).trans rfl
                                have hcz39_1 : wc.cell? ⟨gb107, 1, none⟩ = some (.string ((rd_T87 l1 x22_2).f1.f0)) := (blk_cell BK107.out 1).trans rfl
                                have hcz39_2 : wc.cell? ⟨gb107, 2, none⟩ = some (.string ((rd_T87 l1 x22_2).f1.f1.f0)) := (blk_cell BK107.out 2).trans rfl
                                have hcz39_3 : wc.cell? ⟨gb107, 3, none⟩ = some (.int .i64 ((rd_T87 l1 x22_2).f1.f1.f1)) := (blk_cell BK107.out 3).trans rfl
                                have hcz39_4 : wc.cell? ⟨gb107, 4, none⟩ = some (.int .i64 ((rd_T87 l1 x22_2).f1.f1.f2)) := (blk_cell BK107.out 4).trans rfl
                                have hfz39_0 := blk_frozen BK107.out 0
                                have hfz39_1 := blk_frozen BK107.out 1
                                have hfz39_2 := blk_frozen BK107.out 2
                                have hfz39_3 := blk_frozen BK107.out 3
                                have hfz39_4 := blk_frozen BK107.out 4
                                go_wp2_with (first | ((with_reducible refine gate_dst (N := 68) rfl ?_); (try (refine gate_guard (by rfl) ?_; dsimp only)); refine Kd.R_lit k71 _ 71 ?hg (N := 68) ?hd (xs := ([(⟨((rd_T87 l1 x22_2).f1.f0), (⟨((rd_T87 l1 x22_2).f1.f1.f0), ((rd_T87 l1 x22_2).f1.f1.f1), ((rd_T87 l1 x22_2).f1.f1.f2)⟩ : S69)⟩ : S71)] : List (S71))) (inner := [.string ((rd_T87 l1 x22_2).f1.f0), .string ((rd_T87 l1 x22_2).f1.f1.f0), .int .i64 ((rd_T87 l1 x22_2).f1.f1.f1), .int .i64 ((rd_T87 l1 x22_2).f1.f1.f2)]) (ok := fun _ => True) (okp := fun _ => True) ?hr ?hp (fun _ hk => hk) trivial (Below.refl _ _) (Nat.le_refl _) (by simp) ?_; (case hd => rfl); (case hg => rfl); (case hr => first | (go_simp; done) | (go_simp; rfl)); (case hp => exact (Reps.c4 (show Kd.M k71 _ _ _ (⟨((rd_T87 l1 x22_2).f1.f0), (⟨((rd_T87 l1 x22_2).f1.f1.f0), ((rd_T87 l1 x22_2).f1.f1.f1), ((rd_T87 l1 x22_2).f1.f1.f2)⟩ : S69)⟩ : S71) [.string ((rd_T87 l1 x22_2).f1.f0), .string ((rd_T87 l1 x22_2).f1.f1.f0), .int .i64 ((rd_T87 l1 x22_2).f1.f1.f1), .int .i64 ((rd_T87 l1 x22_2).f1.f1.f2)] from (k71_mkM _ _ _ (⟨((rd_T87 l1 x22_2).f1.f0), (⟨((rd_T87 l1 x22_2).f1.f1.f0), ((rd_T87 l1 x22_2).f1.f1.f1), ((rd_T87 l1 x22_2).f1.f1.f2)⟩ : S69)⟩ : S71) )) (Reps.none _ _))); intro v112 w40 ho41 hb hg_ hnew_; clear hg_ hnew_; (first | rw [← Ny111.out] at ho41 | (simp only [Int.reduceToNat] at ho41; rw [← Ny111.out] at ho41)); have n0_ := Aside0.mk (Kd.R_elder' (by (with_reducible repeat (first | apply Kd.R_alloc | apply Kd.R_drewN | apply Kd.R_drew)); exact HO_6.out) (Kd.R_base ho41) hb); have n1_ := Aside0.mk (Kd.R_lower (Kd.R_new' ho41 (Kd.R_lt (by (with_reducible repeat (first | apply Kd.R_alloc | apply Kd.R_drewN | apply Kd.R_drew)); exact HO_6.out))) (below_size (by repeat (first | (with_reducible first | exact HB.out | apply below_alloc | apply pw_below_drewN | apply below_drew1 | refine below_set ?_ GE107.out) | exact HB.out)))); have n2_ := Aside0.mk (blk_below (g := gb107) (o := .cells #[.int .i64 ((rd_T87 l1 x22_2).f0), .string ((rd_T87 l1 x22_2).f1.f0), .string ((rd_T87 l1 x22_2).f1.f1.f0), .int .i64 ((rd_T87 l1 x22_2).f1.f1.f1), .int .i64 ((rd_T87 l1 x22_2).f1.f1.f2)] 87 (0, 0)) (by (with_reducible repeat (first | refine blk_drewN ?_ _ | refine blk_drew ?_ | refine blk_alloc ?_ _)); exact BK107.out) hb); have n3_ := Aside0.mk (below_step (by repeat (first | (with_reducible first | exact HB.out | apply below_alloc | apply pw_below_drewN | apply below_drew1 | refine below_set ?_ GE107.out) | exact HB.out)) hb); clear HO_6; clear BK107; clear HB; have HO_6 := n0_; have HO113 := n1_; have BK107 := n2_; have HB := n3_; clear n0_ n1_ n2_ n3_; clear hb ho41; obtain ⟨Ao42, co42, eo42⟩ := Kd.R_slice HO113.out; subst eo42) | (go_at_call 89; (with_reducible refine (impl_Entry_89.calls (fun k_ => some k_ = (.slice Ao20 x6_2.length co20 : Value).ownBlock) (.slice Ao20 x6_2.length co20) x6_2 t108 (fun k_ => some k_ = (.slice Ao42 y111.length co42 : Value).ownBlock) (.slice Ao42 y111.length co42) y111 t114 w _ ?side1 ?side2 ?side3 ?side4 ?side5 A38.out).mono ?_); (case side1 => repeat (first | (with_reducible first | exact HB.out | apply below_alloc | apply pw_below_drewN | apply below_drew1 | refine below_set ?_ GE107.out) | exact HB.out)); (case side2 => exact Kd.R_tight rfl HO_6.out); (case side3 => exact fun k_ e_ => (HO_6.out.1 k_ e_.symm).2); (case side4 => exact Kd.R_tight rfl HO113.out); (case side5 => exact fun k_ e_ => (HO113.out.1 k_ e_.symm).2); rintro e w43 ⟨v115, rfl, ho0, hb, hkp⟩; have n0_ := Aside0.mk (blk_kept (by (with_reducible repeat (first | refine blk_drewN ?_ _ | refine blk_drew ?_ | refine blk_alloc ?_ _)); exact BK107.out) hkp (fun hs_ => Or.elim hs_ (fun e_ => (fun e_ => (Kd.R_ne HO_6.out BK107.out (by decide)) e_) e_) (fun e_ => (fun e_ => (Kd.R_ne HO113.out BK107.out (by decide)) e_) e_))); have n1_ := Aside0.mk (Kd.R_mono (ok' := fun k_ => True) ho0 (fun k_ hk_ => trivial)); have n2_ := Aside0.mk (hb); clear BK107; clear HB; clear HO113; clear HO_6; have BK107 := n0_; have HO116 := n1_; have HB := n2_; clear n0_ n1_ n2_; (try clear hb); (try clear hkp); (try clear ho0)))
                                repeat (go_quiet (first | ((with_reducible refine gate_dst (N := 68) rfl ?_); (try (refine gate_guard (by rfl) ?_; dsimp only)); refine Kd.R_lit k71 _ 71 ?hg (N := 68) ?hd (xs := ([(⟨((rd_T87 l1 x22_2).f1.f0), (⟨((rd_T87 l1 x22_2).f1.f1.f0), ((rd_T87 l1 x22_2).f1.f1.f1), ((rd_T87 l1 x22_2).f1.f1.f2)⟩ : S69)⟩ : S71)] : List (S71))) (inner := [.string ((rd_T87 l1 x22_2).f1.f0), .string ((rd_T87 l1 x22_2).f1.f1.f0), .int .i64 ((rd_T87 l1 x22_2).f1.f1.f1), .int .i64 ((rd_T87 l1 x22_2).f1.f1.f2)]) (ok := fun _ => True) (okp := fun _ => True) ?hr ?hp (fun _ hk => hk) trivial (Below.refl _ _) (Nat.le_refl _) (by simp) ?_; (case hd => rfl); (case hg => rfl); (case hr => first | (go_simp; done) | (go_simp; rfl)); (case hp => exact (Reps.c4 (show Kd.M k71 _ _ _ (⟨((rd_T87 l1 x22_2).f1.f0), (⟨((rd_T87 l1 x22_2).f1.f1.f0), ((rd_T87 l1 x22_2).f1.f1.f1), ((rd_T87 l1 x22_2).f1.f1.f2)⟩ : S69)⟩ : S71) [.string ((rd_T87 l1 x22_2).f1.f0), .string ((rd_T87 l1 x22_2).f1.f1.f0), .int .i64 ((rd_T87 l1 x22_2).f1.f1.f1), .int .i64 ((rd_T87 l1 x22_2).f1.f1.f2)] from (k71_mkM _ _ _ (⟨((rd_T87 l1 x22_2).f1.f0), (⟨((rd_T87 l1 x22_2).f1.f1.f0), ((rd_T87 l1 x22_2).f1.f1.f1), ((rd_T87 l1 x22_2).f1.f1.f2)⟩ : S69)⟩ : S71) )) (Reps.none _ _))); intro v112 w40 ho41 hb hg_ hnew_; clear hg_ hnew_; (first | rw [← Ny111.out] at ho41 | (simp only [Int.reduceToNat] at ho41; rw [← Ny111.out] at ho41)); have n0_ := Aside0.mk (Kd.R_elder' (by (with_reducible repeat (first | apply Kd.R_alloc | apply Kd.R_drewN | apply Kd.R_drew)); exact HO_6.out) (Kd.R_base ho41) hb); have n1_ := Aside0.mk (Kd.R_lower (Kd.R_new' ho41 (Kd.R_lt (by (with_reducible repeat (first | apply Kd.R_alloc | apply Kd.R_drewN | apply Kd.R_drew)); exact HO_6.out))) (below_size (by repeat (first | (with_reducible first | exact HB.out | apply below_alloc | apply pw_below_drewN | apply below_drew1 | refine below_set ?_ GE107.out) | exact HB.out)))); have n2_ := Aside0.mk (blk_below (g := gb107) (o := .cells #[.int .i64 ((rd_T87 l1 x22_2).f0), .string ((rd_T87 l1 x22_2).f1.f0), .string ((rd_T87 l1 x22_2).f1.f1.f0), .int .i64 ((rd_T87 l1 x22_2).f1.f1.f1), .int .i64 ((rd_T87 l1 x22_2).f1.f1.f2)] 87 (0, 0)) (by (with_reducible repeat (first | refine blk_drewN ?_ _ | refine blk_drew ?_ | refine blk_alloc ?_ _)); exact BK107.out) hb); have n3_ := Aside0.mk (below_step (by repeat (first | (with_reducible first | exact HB.out | apply below_alloc | apply pw_below_drewN | apply below_drew1 | refine below_set ?_ GE107.out) | exact HB.out)) hb); clear HO_6; clear BK107; clear HB; have HO_6 := n0_; have HO113 := n1_; have BK107 := n2_; have HB := n3_; clear n0_ n1_ n2_ n3_; clear hb ho41; obtain ⟨Ao42, co42, eo42⟩ := Kd.R_slice HO113.out; subst eo42) | (go_at_call 89; (with_reducible refine (impl_Entry_89.calls (fun k_ => some k_ = (.slice Ao20 x6_2.length co20 : Value).ownBlock) (.slice Ao20 x6_2.length co20) x6_2 t108 (fun k_ => some k_ = (.slice Ao42 y111.length co42 : Value).ownBlock) (.slice Ao42 y111.length co42) y111 t114 w _ ?side1 ?side2 ?side3 ?side4 ?side5 A38.out).mono ?_); (case side1 => repeat (first | (with_reducible first | exact HB.out | apply below_alloc | apply pw_below_drewN | apply below_drew1 | refine below_set ?_ GE107.out) | exact HB.out)); (case side2 => exact Kd.R_tight rfl HO_6.out); (case side3 => exact fun k_ e_ => (HO_6.out.1 k_ e_.symm).2); (case side4 => exact Kd.R_tight rfl HO113.out); (case side5 => exact fun k_ e_ => (HO113.out.1 k_ e_.symm).2); rintro e w43 ⟨v115, rfl, ho0, hb, hkp⟩; have n0_ := Aside0.mk (blk_kept (by (with_reducible repeat (first | refine blk_drewN ?_ _ | refine blk_drew ?_ | refine blk_alloc ?_ _)); exact BK107.out) hkp (fun hs_ => Or.elim hs_ (fun e_ => (fun e_ => (Kd.R_ne HO_6.out BK107.out (by decide)) e_) e_) (fun e_ => (fun e_ => (Kd.R_ne HO113.out BK107.out (by decide)) e_) e_))); have n1_ := Aside0.mk (Kd.R_mono (ok' := fun k_ => True) ho0 (fun k_ hk_ => trivial)); have n2_ := Aside0.mk (hb); clear BK107; clear HB; clear HO113; clear HO_6; have BK107 := n0_; have HO116 := n1_; have HB := n2_; clear n0_ n1_ n2_; (try clear hb); (try clear hkp); (try clear ho0))); try go_wp2_with (first | ((with_reducible refine gate_dst (N := 68) rfl ?_); (try (refine gate_guard (by rfl) ?_; dsimp only)); refine Kd.R_lit k71 _ 71 ?hg (N := 68) ?hd (xs := ([(⟨((rd_T87 l1 x22_2).f1.f0), (⟨((rd_T87 l1 x22_2).f1.f1.f0), ((rd_T87 l1 x22_2).f1.f1.f1), ((rd_T87 l1 x22_2).f1.f1.f2)⟩ : S69)⟩ : S71)] : List (S71))) (inner := [.string ((rd_T87 l1 x22_2).f1.f0), .string ((rd_T87 l1 x22_2).f1.f1.f0), .int .i64 ((rd_T87 l1 x22_2).f1.f1.f1), .int .i64 ((rd_T87 l1 x22_2).f1.f1.f2)]) (ok := fun _ => True) (okp := fun _ => True) ?hr ?hp (fun _ hk => hk) trivial (Below.refl _ _) (Nat.le_refl _) (by simp) ?_; (case hd => rfl); (case hg => rfl); (case hr => first | (go_simp; done) | (go_simp; rfl)); (case hp => exact (Reps.c4 (show Kd.M k71 _ _ _ (⟨((rd_T87 l1 x22_2).f1.f0), (⟨((rd_T87 l1 x22_2).f1.f1.f0), ((rd_T87 l1 x22_2).f1.f1.f1), ((rd_T87 l1 x22_2).f1.f1.f2)⟩ : S69)⟩ : S71) [.string ((rd_T87 l1 x22_2).f1.f0), .string ((rd_T87 l1 x22_2).f1.f1.f0), .int .i64 ((rd_T87 l1 x22_2).f1.f1.f1), .int .i64 ((rd_T87 l1 x22_2).f1.f1.f2)] from (k71_mkM _ _ _ (⟨((rd_T87 l1 x22_2).f1.f0), (⟨((rd_T87 l1 x22_2).f1.f1.f0), ((rd_T87 l1 x22_2).f1.f1.f1), ((rd_T87 l1 x22_2).f1.f1.f2)⟩ : S69)⟩ : S71) )) (Reps.none _ _))); intro v112 w40 ho41 hb hg_ hnew_; clear hg_ hnew_; (first | rw [← Ny111.out] at ho41 | (simp only [Int.reduceToNat] at ho41; rw [← Ny111.out] at ho41)); have n0_ := Aside0.mk (Kd.R_elder' (by (with_reducible repeat (first | apply Kd.R_alloc | apply Kd.R_drewN | apply Kd.R_drew)); exact HO_6.out) (Kd.R_base ho41) hb); have n1_ := Aside0.mk (Kd.R_lower (Kd.R_new' ho41 (Kd.R_lt (by (with_reducible repeat (first | apply Kd.R_alloc | apply Kd.R_drewN | apply Kd.R_drew)); exact HO_6.out))) (below_size (by repeat (first | (with_reducible first | exact HB.out | apply below_alloc | apply pw_below_drewN | apply below_drew1 | refine below_set ?_ GE107.out) | exact HB.out)))); have n2_ := Aside0.mk (blk_below (g := gb107) (o := .cells #[.int .i64 ((rd_T87 l1 x22_2).f0), .string ((rd_T87 l1 x22_2).f1.f0), .string ((rd_T87 l1 x22_2).f1.f1.f0), .int .i64 ((rd_T87 l1 x22_2).f1.f1.f1), .int .i64 ((rd_T87 l1 x22_2).f1.f1.f2)] 87 (0, 0)) (by (with_reducible repeat (first | refine blk_drewN ?_ _ | refine blk_drew ?_ | refine blk_alloc ?_ _)); exact BK107.out) hb); have n3_ := Aside0.mk (below_step (by repeat (first | (with_reducible first | exact HB.out | apply below_alloc | apply pw_below_drewN | apply below_drew1 | refine below_set ?_ GE107.out) | exact HB.out)) hb); clear HO_6; clear BK107; clear HB; have HO_6 := n0_; have HO113 := n1_; have BK107 := n2_; have HB := n3_; clear n0_ n1_ n2_ n3_; clear hb ho41; obtain ⟨Ao42, co42, eo42⟩ := Kd.R_slice HO113.out; subst eo42) | (go_at_call 89; (with_reducible refine (impl_Entry_89.calls (fun k_ => some k_ = (.slice Ao20 x6_2.length co20 : Value).ownBlock) (.slice Ao20 x6_2.length co20) x6_2 t108 (fun k_ => some k_ = (.slice Ao42 y111.length co42 : Value).ownBlock) (.slice Ao42 y111.length co42) y111 t114 w _ ?side1 ?side2 ?side3 ?side4 ?side5 A38.out).mono ?_); (case side1 => repeat (first | (with_reducible first | exact HB.out | apply below_alloc | apply pw_below_drewN | apply below_drew1 | refine below_set ?_ GE107.out) | exact HB.out)); (case side2 => exact Kd.R_tight rfl HO_6.out); (case side3 => exact fun k_ e_ => (HO_6.out.1 k_ e_.symm).2); (case side4 => exact Kd.R_tight rfl HO113.out); (case side5 => exact fun k_ e_ => (HO113.out.1 k_ e_.symm).2); rintro e w43 ⟨v115, rfl, ho0, hb, hkp⟩; have n0_ := Aside0.mk (blk_kept (by (with_reducible repeat (first | refine blk_drewN ?_ _ | refine blk_drew ?_ | refine blk_alloc ?_ _)); exact BK107.out) hkp (fun hs_ => Or.elim hs_ (fun e_ => (fun e_ => (Kd.R_ne HO_6.out BK107.out (by decide)) e_) e_) (fun e_ => (fun e_ => (Kd.R_ne HO113.out BK107.out (by decide)) e_) e_))); have n1_ := Aside0.mk (Kd.R_mono (ok' := fun k_ => True) ho0 (fun k_ hk_ => trivial)); have n2_ := Aside0.mk (hb); clear BK107; clear HB; clear HO113; clear HO_6; have BK107 := n0_; have HO116 := n1_; have HB := n2_; clear n0_ n1_ n2_; (try clear hb); (try clear hkp); (try clear ho0))))
                                go_roundg kj31
                                case measure => have := HJ2.out; have := HK2.out; have := HJ16.out; have := HJ31.out; omega
                                case rel => exact ⟨(t114), (wrap64 (x22_2 + 1)), (by first | rfl | (simp; done) | (simp [*]; done)), H', ⟨by have := HJ2.out; have := HK2.out; have := HJ16.out; have := HJ31.out; omega⟩, ⟨by (with_reducible repeat (first | apply Kd.R_alloc | apply Kd.R_drewN | apply Kd.R_drew)); exact HO116.out⟩, ⟨by repeat (first | (with_reducible first | exact HB.out | apply below_alloc | apply pw_below_drewN | apply below_drew1 | refine below_set ?_ GE107.out) | exact HB.out)⟩⟩
                              · rw [if_neg c37] at H
                                have c37b0 : (((rd_T87 l1 x22_2).f0) == 1) = false := beq_eq_false_iff_ne.mpr c37
                                have c37b1 : (((rd_T87 l1 x22_2).f0) != 1) = true := bne_iff_ne.mpr c37
                                by_cases c44 : t109 = true
                                · subst c44
                                  have H1 : (if 0 ≤ t108 then (if t108 < (x6_2.length : Int) then (if (!((((rd_T71 x6_2 t108).f0).toList) == ((rd_T87 l1 x22_2).f1.f0).toList) || ((!((((rd_T71 x6_2 t108).f1.f0).toList) == ((rd_T87 l1 x22_2).f1.f1.f0).toList) || (!(((rd_T71 x6_2 t108).f1.f1) == ((rd_T87 l1 x22_2).f1.f1.f1)) || (!(((rd_T71 x6_2 t108).f1.f2) == ((rd_T87 l1 x22_2).f1.f1.f2))))))) = true then (some (([] : List (S71)), 6)) else ((impl_Entry_90.f x6_2 t108 (wrap64 (t108 + 1))).bind fun t118 => (impl_ApplyChanges.l0 kj31 t118 l1 (l1.length : Int) (wrap64 (x22_2 + 1))))) else (none)) else (none)) = some (r1, r2) := by rw [if_pos rfl] at H; exact H
                                  clear H
                                  have H := H1
                                  clear H1
                                  by_cases c45 : 0 ≤ t108
                                  · rw [if_pos c45] at H
                                    have c45b0 : decide (0 ≤ t108) = true := decide_eq_true c45
                                    clear c45
                                    by_cases c46 : t108 < (x6_2.length : Int)
                                    · rw [if_pos c46] at H
                                      have c46b0 : decide (t108 < (x6_2.length : Int)) = true := decide_eq_true c46
                                      clear c46
                                      by_cases c47 : (!((((rd_T71 x6_2 t108).f0).toList) == ((rd_T87 l1 x22_2).f1.f0).toList) || ((!((((rd_T71 x6_2 t108).f1.f0).toList) == ((rd_T87 l1 x22_2).f1.f1.f0).toList) || (!(((rd_T71 x6_2 t108).f1.f1) == ((rd_T87 l1 x22_2).f1.f1.f1)) || (!(((rd_T71 x6_2 t108).f1.f2) == ((rd_T87 l1 x22_2).f1.f1.f2))))))) = true
                                      · rw [if_pos c47] at H
                                        have c47b0 : (!((((rd_T71 x6_2 t108).f0).toList) == ((rd_T87 l1 x22_2).f1.f0).toList) || ((!((((rd_T71 x6_2 t108).f1.f0).toList) == ((rd_T87 l1 x22_2).f1.f1.f0).toList) || (!(((rd_T71 x6_2 t108).f1.f1) == ((rd_T87 l1 x22_2).f1.f1.f1)) || (!(((rd_T71 x6_2 t108).f1.f2) == ((rd_T87 l1 x22_2).f1.f1.f2))))))) = true := c47
                                        clear c47
                                        simp only [Option.some.injEq, Prod.mk.injEq] at H
                                        obtain ⟨rfl, rfl⟩ := H
                                        have hcz48_0 : wc.cell? ⟨gb107, 0, none⟩ = some (.int .i64 ((rd_T87 l1 x22_2).f0)) := (blk_cell BK107.out 0).trans rfl
                                        have hcz48_1 : wc.cell? ⟨gb107, 1, none⟩ = some (.string ((rd_T87 l1 x22_2).f1.f0)) := (blk_cell BK107.out 1).trans rfl
                                        have hcz48_2 : wc.cell? ⟨gb107, 2, none⟩ = some (.string ((rd_T87 l1 x22_2).f1.f1.f0)) := (blk_cell BK107.out 2).trans rfl
                                        have hcz48_3 : wc.cell? ⟨gb107, 3, none⟩ = some (.int .i64 ((rd_T87 l1 x22_2).f1.f1.f1)) := (blk_cell BK107.out 3).trans rfl
                                        have hcz48_4 : wc.cell? ⟨gb107, 4, none⟩ = some (.int .i64 ((rd_T87 l1 x22_2).f1.f1.f2)) := (blk_cell BK107.out 4).trans rfl
                                        have hfz48_0 := blk_frozen BK107.out 0
                                        have hfz48_1 := blk_frozen BK107.out 1
                                        have hfz48_2 := blk_frozen BK107.out 2
                                        have hfz48_3 := blk_frozen BK107.out 3
                                        have hfz48_4 := blk_frozen BK107.out 4
                                        have p117 : 0 ≤ (t108 : Int) := of_decide_eq_true (by first | (with_reducible assumption) | assumption)
                                        have q117 : t108 < (x6_2.length : Int) := of_decide_eq_true (by first | (with_reducible assumption) | assumption)
                                        obtain ⟨ad117, e117, hx117_0, hx117_1, hx117_2, hx117_3⟩ := at_T71 (Kd.R_reads' HO_6.out).2.2 t108 p117 q117
                                        cases e117
                                        replace p117 := eq_true p117
                                        replace q117 := eq_true q117
                                        go_wp2
                                        repeat (go_quiet (fail); try go_wp2)
                                        go_ret2
                                        exact ⟨_, by first | rfl | (simp [errW_none, errW_some] <;> rfl) | (simp [*, errW_none, errW_some] <;> rfl), by first | exact Kd.R_nil _ _ _ _ _ | exact Kd.N_nil _ _ _ _ _ | exact Kd.V_nil _ _ _ _ _ | exact Kd.Q_nil _ _ _ _ _ | exact Kd.S_nil _ _ _ _ _, by repeat (first | (with_reducible first | exact HB.out | apply below_alloc | apply pw_below_drewN | apply below_drew1 | refine below_set ?_ GE107.out) | exact HB.out)⟩
                                      · rw [if_neg c47] at H
                                        have c47b0 : (!((((rd_T71 x6_2 t108).f0).toList) == ((rd_T87 l1 x22_2).f1.f0).toList) || ((!((((rd_T71 x6_2 t108).f1.f0).toList) == ((rd_T87 l1 x22_2).f1.f1.f0).toList) || (!(((rd_T71 x6_2 t108).f1.f1) == ((rd_T87 l1 x22_2).f1.f1.f1)) || (!(((rd_T71 x6_2 t108).f1.f2) == ((rd_T87 l1 x22_2).f1.f1.f2))))))) = false := by simpa using c47
                                        clear c47
                                        replace H := Option.bind_eq_some_iff.mp H
                                        obtain ⟨t118, A490, H⟩ := H
                                        replace H : (impl_ApplyChanges.l0 kj31 t118 l1 (l1.length : Int) (wrap64 (x22_2 + 1))) = some (r1, r2) := H
                                        have A49 := Aside0.mk A490
                                        clear A490
                                        have H' := Aside0.mk H
                                        clear H
                                        have hcz50_0 : wc.cell? ⟨gb107, 0, none⟩ = some (.int .i64 ((rd_T87 l1 x22_2).f0)) := (blk_cell BK107.out 0).trans rfl
                                        have hcz50_1 : wc.cell? ⟨gb107, 1, none⟩ = some (.string ((rd_T87 l1 x22_2).f1.f0)) := (blk_cell BK107.out 1).trans rfl
                                        have hcz50_2 : wc.cell? ⟨gb107, 2, none⟩ = some (.string ((rd_T87 l1 x22_2).f1.f1.f0)) := (blk_cell BK107.out 2).trans rfl
                                        have hcz50_3 : wc.cell? ⟨gb107, 3, none⟩ = some (.int .i64 ((rd_T87 l1 x22_2).f1.f1.f1)) := (blk_cell BK107.out 3).trans rfl
                                        have hcz50_4 : wc.cell? ⟨gb107, 4, none⟩ = some (.int .i64 ((rd_T87 l1 x22_2).f1.f1.f2)) := (blk_cell BK107.out 4).trans rfl
                                        have hfz50_0 := blk_frozen BK107.out 0
                                        have hfz50_1 := blk_frozen BK107.out 1
                                        have hfz50_2 := blk_frozen BK107.out 2
                                        have hfz50_3 := blk_frozen BK107.out 3
                                        have hfz50_4 := blk_frozen BK107.out 4
                                        have p117 : 0 ≤ (t108 : Int) := of_decide_eq_true (by first | (with_reducible assumption) | assumption)
                                        have q117 : t108 < (x6_2.length : Int) := of_decide_eq_true (by first | (with_reducible assumption) | assumption)
                                        obtain ⟨ad117, e117, hx117_0, hx117_1, hx117_2, hx117_3⟩ := at_T71 (Kd.R_reads' HO_6.out).2.2 t108 p117 q117
                                        cases e117
                                        replace p117 := eq_true p117
                                        replace q117 := eq_true q117
                                        go_wp2_with (first | (go_at_call 90; (with_reducible refine (impl_Entry_90.calls (fun k_ => some k_ = (.slice (some ad117) x6_2.length co20 : Value).ownBlock) (.slice (some ad117) x6_2.length co20) x6_2 t108 (wrap64 (t108 + 1)) t118 w _ ?side1 ?side2 A49.out).mono ?_); (case side1 => repeat (first | (with_reducible first | exact HB.out | apply below_alloc | apply pw_below_drewN | apply below_drew1 | refine below_set ?_ GE107.out) | exact HB.out)); (case side2 => exact Kd.R_tight rfl HO_6.out); rintro e w51 ⟨v119, rfl, ho0, hb, hkp⟩; have n0_ := Aside0.mk (blk_kept (by (with_reducible repeat (first | refine blk_drewN ?_ _ | refine blk_drew ?_ | refine blk_alloc ?_ _)); exact BK107.out) hkp (fun hs_ => (fun e_ => (Kd.R_ne HO_6.out BK107.out (by decide)) e_) hs_)); have n1_ := Aside0.mk (Kd.R_mono (ok' := fun k_ => True) ho0 (fun k_ hk_ => trivial)); have n2_ := Aside0.mk (hb); clear BK107; clear HB; clear HO_6; have BK107 := n0_; have HO120 := n1_; have HB := n2_; clear n0_ n1_ n2_; (try clear hb); (try clear hkp); (try clear ho0)))
                                        repeat (go_quiet (first | (go_at_call 90; (with_reducible refine (impl_Entry_90.calls (fun k_ => some k_ = (.slice (some ad117) x6_2.length co20 : Value).ownBlock) (.slice (some ad117) x6_2.length co20) x6_2 t108 (wrap64 (t108 + 1)) t118 w _ ?side1 ?side2 A49.out).mono ?_); (case side1 => repeat (first | (with_reducible first | exact HB.out | apply below_alloc | apply pw_below_drewN | apply below_drew1 | refine below_set ?_ GE107.out) | exact HB.out)); (case side2 => exact Kd.R_tight rfl HO_6.out); rintro e w51 ⟨v119, rfl, ho0, hb, hkp⟩; have n0_ := Aside0.mk (blk_kept (by (with_reducible repeat (first | refine blk_drewN ?_ _ | refine blk_drew ?_ | refine blk_alloc ?_ _)); exact BK107.out) hkp (fun hs_ => (fun e_ => (Kd.R_ne HO_6.out BK107.out (by decide)) e_) hs_)); have n1_ := Aside0.mk (Kd.R_mono (ok' := fun k_ => True) ho0 (fun k_ hk_ => trivial)); have n2_ := Aside0.mk (hb); clear BK107; clear HB; clear HO_6; have BK107 := n0_; have HO120 := n1_; have HB := n2_; clear n0_ n1_ n2_; (try clear hb); (try clear hkp); (try clear ho0))); try go_wp2_with (first | (go_at_call 90; (with_reducible refine (impl_Entry_90.calls (fun k_ => some k_ = (.slice (some ad117) x6_2.length co20 : Value).ownBlock) (.slice (some ad117) x6_2.length co20) x6_2 t108 (wrap64 (t108 + 1)) t118 w _ ?side1 ?side2 A49.out).mono ?_); (case side1 => repeat (first | (with_reducible first | exact HB.out | apply below_alloc | apply pw_below_drewN | apply below_drew1 | refine below_set ?_ GE107.out) | exact HB.out)); (case side2 => exact Kd.R_tight rfl HO_6.out); rintro e w51 ⟨v119, rfl, ho0, hb, hkp⟩; have n0_ := Aside0.mk (blk_kept (by (with_reducible repeat (first | refine blk_drewN ?_ _ | refine blk_drew ?_ | refine blk_alloc ?_ _)); exact BK107.out) hkp (fun hs_ => (fun e_ => (Kd.R_ne HO_6.out BK107.out (by decide)) e_) hs_)); have n1_ := Aside0.mk (Kd.R_mono (ok' := fun k_ => True) ho0 (fun k_ hk_ => trivial)); have n2_ := Aside0.mk (hb); clear BK107; clear HB; clear HO_6; have BK107 := n0_; have HO120 := n1_; have HB := n2_; clear n0_ n1_ n2_; (try clear hb); (try clear hkp); (try clear ho0))))
                                        go_roundg kj31
                                        case measure => have := HJ2.out; have := HK2.out; have := HJ16.out; have := HJ31.out; omega
                                        case rel => exact ⟨(t118), (wrap64 (x22_2 + 1)), (by first | rfl | (simp; done) | (simp [*]; done)), H', ⟨by have := HJ2.out; have := HK2.out; have := HJ16.out; have := HJ31.out; omega⟩, ⟨by (with_reducible repeat (first | apply Kd.R_alloc | apply Kd.R_drewN | apply Kd.R_drew)); exact HO120.out⟩, ⟨by repeat (first | (with_reducible first | exact HB.out | apply below_alloc | apply pw_below_drewN | apply below_drew1 | refine below_set ?_ GE107.out) | exact HB.out)⟩⟩
                                    · rw [if_neg c46] at H
                                      exact absurd H (by simp)
                                  · rw [if_neg c45] at H
                                    exact absurd H (by simp)
                                · replace c44 := Bool.eq_false_iff.mpr c44
                                  subst c44
                                  have H1 : (some (([] : List (S71)), 3)) = some (r1, r2) := by rw [if_neg (show ¬ (false = true) by decide)] at H; exact H
                                  clear H
                                  have H := H1
                                  clear H1
                                  simp only [Option.some.injEq, Prod.mk.injEq] at H
                                  obtain ⟨rfl, rfl⟩ := H
                                  have hcz52_0 : wc.cell? ⟨gb107, 0, none⟩ = some (.int .i64 ((rd_T87 l1 x22_2).f0)) := (blk_cell BK107.out 0).trans rfl
                                  have hcz52_1 : wc.cell? ⟨gb107, 1, none⟩ = some (.string ((rd_T87 l1 x22_2).f1.f0)) := (blk_cell BK107.out 1).trans rfl
                                  have hcz52_2 : wc.cell? ⟨gb107, 2, none⟩ = some (.string ((rd_T87 l1 x22_2).f1.f1.f0)) := (blk_cell BK107.out 2).trans rfl
                                  have hcz52_3 : wc.cell? ⟨gb107, 3, none⟩ = some (.int .i64 ((rd_T87 l1 x22_2).f1.f1.f1)) := (blk_cell BK107.out 3).trans rfl
                                  have hcz52_4 : wc.cell? ⟨gb107, 4, none⟩ = some (.int .i64 ((rd_T87 l1 x22_2).f1.f1.f2)) := (blk_cell BK107.out 4).trans rfl
                                  have hfz52_0 := blk_frozen BK107.out 0
                                  have hfz52_1 := blk_frozen BK107.out 1
                                  have hfz52_2 := blk_frozen BK107.out 2
                                  have hfz52_3 := blk_frozen BK107.out 3
                                  have hfz52_4 := blk_frozen BK107.out 4
                                  go_wp2
                                  repeat (go_quiet (fail); try go_wp2)
                                  go_ret2
                                  exact ⟨_, by first | rfl | (simp [errW_none, errW_some] <;> rfl) | (simp [*, errW_none, errW_some] <;> rfl), by first | exact Kd.R_nil _ _ _ _ _ | exact Kd.N_nil _ _ _ _ _ | exact Kd.V_nil _ _ _ _ _ | exact Kd.Q_nil _ _ _ _ _ | exact Kd.S_nil _ _ _ _ _, by repeat (first | (with_reducible first | exact HB.out | apply below_alloc | apply pw_below_drewN | apply below_drew1 | refine below_set ?_ GE107.out) | exact HB.out)⟩
                · rw [if_neg c15] at H
                  exact absurd H (by simp)
              · rw [if_neg c14] at H
                exact absurd H (by simp)
            · rw [if_neg c13] at H
              have c13b0 : decide (x22_2 < (l1.length : Int)) = false := decide_eq_false c13
              clear c13
              simp only [Option.some.injEq, Prod.mk.injEq] at H
              obtain ⟨rfl, rfl⟩ := H
              go_wp2
              repeat (go_quiet (fail); try go_wp2)
              go_ret2
              exact ⟨_, by first | rfl | (simp [errW_none, errW_some] <;> rfl) | (simp [*, errW_none, errW_some] <;> rfl), by (with_reducible repeat (first | apply Kd.R_alloc | apply Kd.R_drewN | apply Kd.R_drew)); exact HO_6.out, by repeat (first | (with_reducible first | exact HB.out | apply below_alloc | apply pw_below_drewN | apply below_drew1) | exact HB.out)⟩
end Go.Proofs.Ythnigkbbmhnafaa.Q
namespace Go.Proofs.Ythnigkbbmhnafaa.Q
open Go.RowKit Go.Proofs.YthnigkbbmhnafaaW.PrintWords Go.Proofs.YthnigkbbmhnafaaW.PrintLast Go.Proofs.YthnigkbbmhnafaaW.PrintMore
attribute [local go_sem] max2_int min2_int max_two min_two max_three min_three max_four min_four
set_option linter.unusedVariables false
set_option linter.unusedSimpArgs false
def laws_heldEntryS.l0 : Nat → List (S71) → Int → Int → Option (Int)
  | 0, _, _, _ => none
  | k + 1, x0, x1, x5 => if x5 < (x0.length : Int) then (if 0 ≤ x5 then ((laws_markText.f k x1).bind fun t102 => (if ((rd_T71 x0 x5).f0).toList = t102.toList then ((laws_markText.f k (wrap64 (x1 + 1))).bind fun t104 => (if ((rd_T71 x0 x5).f1.f0).toList = t104.toList then (if ((rd_T71 x0 x5).f1.f1) = (wrap64 ((wrap64 (x1 + 1)) + 1)) then (if ((rd_T71 x0 x5).f1.f2) = (wrap64 ((wrap64 ((wrap64 (x1 + 1)) + 1)) + 1)) then (laws_heldEntryS.l0 k x0 (wrap64 ((wrap64 ((wrap64 ((wrap64 (x1 + 1)) + 1)) + 1)) + 1)) (wrap64 (x5 + 1))) else (some (-1))) else (some (-1))) else (some (-1)))) else (some (-1)))) else (none)) else (some x1)
def laws_heldEntryS.f (k : Nat) (l0 : List (S71)) (a1 : Int) : Option (Int) := laws_heldEntryS.l0 k l0 a1 0
def laws_heldEntryS.T4 : Bool × List (List Nat × List Nat) := (true, [([], []), ([], []), ([0, 1], [0, 1]), ([2], [2]), ([3], [3]), ([], []), ([5], [5]), ([4, 6], [4, 6])])
def laws_heldEntryS.B4 : List Nat := [0, 0, 3, 7, 15, 0, 32, 127]
theorem laws_heldEntryS.tab4 : rtab .any (opsOf Try.f50 4) = laws_heldEntryS.T4 := by kernel_rfl
theorem laws_heldEntryS.bits4 : waitsOk laws_heldEntryS.T4.2 laws_heldEntryS.B4 = true := by kernel_rfl
def laws_heldEntryS.T7 : Bool × List (List Nat × List Nat) := (true, [([], []), ([], []), ([0, 1], [0, 1]), ([2], [2]), ([3], [3]), ([4], [4]), ([], []), ([6], [6]), ([5, 7], [5, 7])])
def laws_heldEntryS.B7 : List Nat := [0, 0, 3, 7, 15, 31, 0, 64, 255]
theorem laws_heldEntryS.tab7 : rtab .any (opsOf Try.f50 7) = laws_heldEntryS.T7 := by kernel_rfl
theorem laws_heldEntryS.bits7 : waitsOk laws_heldEntryS.T7.2 laws_heldEntryS.B7 = true := by kernel_rfl
set_option maxHeartbeats 8000000 in
set_option maxRecDepth 100000 in
theorem laws_heldEntryS.calls (k : Nat) (A0 : Option Addr) (c0 : Nat) (l0 : List (S71)) (a1 : Int) (r : Int) (w : World) (hr0 : Kd.C k71 w A0 l0.length l0) (hc0 : l0.length ≤ c0) (h : laws_heldEntryS.f k l0 a1 = some r) :
    Calls Try.prog 50 #[.slice A0 l0.length c0, .int .i64 a1] w fun e w' => e = .returned (.int .i64 r) ∧ Below w.heap.size w w' := by
  have HR0 := Aside0.mk hr0
  have HC0 := Aside0.mk hc0
  clear hr0 hc0
  have HB := Aside0.mk (Below.refl w.heap.size w)
  have H : (laws_heldEntryS.l0 k l0 a1 0) = some r := h
  clear h
  have H' := Aside0.mk H
  clear H
  go_enter Try.func50, Try.ntmps50
  go_wp2
  go_loopg [1, 5] k (fun kq v1 v5 w' => ∃ (x1_1 : Int) (x5_1 : Int), v1 = .int .i64 x1_1 ∧ v5 = .int .i64 x5_1 ∧ Aside0 (laws_heldEntryS.l0 kq l0 x1_1 x5_1 = some r) ∧ Aside0 (kq ≤ k) ∧ Aside0 (Below w.heap.size w w'))
  case atStart => exact ⟨(a1), (0), (by first | rfl | (simp; done) | (simp [*]; done)), (by first | rfl | (simp; done) | (simp [*]; done)), H', ⟨Nat.le_refl _⟩, ⟨by repeat (first | (with_reducible first | exact HB.out | apply below_alloc | apply pw_below_drewN | apply below_drew1) | exact HB.out)⟩⟩
  case round =>
    clear H'
    try clear p2
    obtain ⟨x1_1, x5_1, rfl, rfl, HA, HK1, HB⟩ := hrel
    cases gk with
    | zero => exact absurd HA.out (by simp [laws_heldEntryS.l0])
    | succ k1 =>
      have H := HA.out
      clear HA
      simp only [laws_heldEntryS.l0] at H
      by_cases c3 : x5_1 < (l0.length : Int)
      · rw [if_pos c3] at H
        have c3b0 : decide (x5_1 < (l0.length : Int)) = true := decide_eq_true c3
        clear c3
        by_cases c4 : 0 ≤ x5_1
        · rw [if_pos c4] at H
          have c4b0 : decide (0 ≤ x5_1) = true := decide_eq_true c4
          clear c4
          replace H := Option.bind_eq_some_iff.mp H
          obtain ⟨t102, A50, H⟩ := H
          replace H : (if ((rd_T71 l0 x5_1).f0).toList = t102.toList then ((laws_markText.f k1 (wrap64 (x1_1 + 1))).bind fun t104 => (if ((rd_T71 l0 x5_1).f1.f0).toList = t104.toList then (if ((rd_T71 l0 x5_1).f1.f1) = (wrap64 ((wrap64 (x1_1 + 1)) + 1)) then (if ((rd_T71 l0 x5_1).f1.f2) = (wrap64 ((wrap64 ((wrap64 (x1_1 + 1)) + 1)) + 1)) then (laws_heldEntryS.l0 k1 l0 (wrap64 ((wrap64 ((wrap64 ((wrap64 (x1_1 + 1)) + 1)) + 1)) + 1)) (wrap64 (x5_1 + 1))) else (some (-1))) else (some (-1))) else (some (-1)))) else (some (-1))) = some r := H
          have A5 := Aside0.mk A50
          clear A50
          have HC6 := Aside0.mk H
          clear H
          try go_wp2
          have n0_ := Aside0.mk (below_drew1 HB.out)
          clear HB
          have HB := n0_
          clear n0_
          have p101 : 0 ≤ (x5_1 : Int) := of_decide_eq_true (by first | (with_reducible assumption) | assumption)
          have q101 : x5_1 < (l0.length : Int) := of_decide_eq_true (by first | (with_reducible assumption) | assumption)
          obtain ⟨ad101, e101, hx101_0, hx101_1, hx101_2, hx101_3⟩ := at_T71 HR0.out x5_1 p101 q101
          have hw101_3 := hx101_3
          have hw101_2 := hx101_2
          have hw101_1 := hx101_1
          have hw101_0 := hx101_0
          cases e101
          replace hx101_0 := (HB.out.cell (World.block_lt_of_cell? w _ hx101_0)).trans hx101_0
          replace hx101_1 := (HB.out.cell (World.block_lt_of_cell? w _ hx101_1)).trans hx101_1
          replace hx101_2 := (HB.out.cell (World.block_lt_of_cell? w _ hx101_2)).trans hx101_2
          replace hx101_3 := (HB.out.cell (World.block_lt_of_cell? w _ hx101_3)).trans hx101_3
          replace p101 := eq_true p101
          replace q101 := eq_true q101
          refine start_ (n := 8) (S := fun w' => w'.cell? (ad101.add ((x5_1).toNat * 4)) = some (.string ((rd_T71 l0 x5_1).f0)) ∧ w'.cell? ⟨(ad101.add ((x5_1).toNat * 4)).block, (ad101.add ((x5_1).toNat * 4)).off + 1, none⟩ = some (.string ((rd_T71 l0 x5_1).f1.f0)) ∧ w'.cell? ⟨(ad101.add ((x5_1).toNat * 4)).block, (ad101.add ((x5_1).toNat * 4)).off + 2, none⟩ = some (.int .i64 ((rd_T71 l0 x5_1).f1.f1)) ∧ w'.cell? ⟨(ad101.add ((x5_1).toNat * 4)).block, (ad101.add ((x5_1).toNat * 4)).off + 3, none⟩ = some (.int .i64 ((rd_T71 l0 x5_1).f1.f2))) (ds := []) #[false, false, false, false, false, false, false, false] (by kernel_rfl) rfl rfl ⟨((HB.out.cell (World.block_lt_of_cell? w _ hw101_0)).trans hw101_0), ((HB.out.cell (World.block_lt_of_cell? w _ hw101_1)).trans hw101_1), ((HB.out.cell (World.block_lt_of_cell? w _ hw101_2)).trans hw101_2), ((HB.out.cell (World.block_lt_of_cell? w _ hw101_3)).trans hw101_3)⟩ (fun hHeld => ?_); refine with_tabW laws_heldEntryS.tab4 laws_heldEntryS.bits4 (fun HT_ HW_ => ?_)
          generalize wr.drew = w7 at HB hx101_0 hx101_1 hx101_2 hx101_3 hHeld ⊢
          refine pure_ (i := 0) (N := some 12) (v := ?_) (a' := ?_) #[true, false, false, false, false, false, false, false] rfl rfl (any_of HT_.out (by kernel_rfl)) (fun _ _ _ h => h) (Or.inl ⟨by rfl, ?_⟩) ?_ ?_
          rotate_left
          · intro w'
            go_simp
            with_reducible rfl
          rotate_left
          · simp only [Act.put, List.setIfInBounds_toArray, List.set_cons_zero, List.set_cons_succ, i64_w, i32_w]
            rfl
          refine pure_ (i := 1) (N := some 13) (v := ?_) (a' := ?_) #[true, true, false, false, false, false, false, false] rfl rfl (any_of HT_.out (by kernel_rfl)) (fun _ _ _ h => h) (Or.inl ⟨by rfl, ?_⟩) ?_ ?_
          rotate_left
          · intro w'
            go_simp
            with_reducible rfl
          rotate_left
          · simp only [Act.put, List.setIfInBounds_toArray, List.set_cons_zero, List.set_cons_succ, i64_w, i32_w]
            rfl
          refine pure_ (i := 2) (N := some 14) (v := ?_) (a' := ?_) #[true, true, true, false, false, false, false, false] rfl rfl (any_of HT_.out (by kernel_rfl)) (fun _ _ _ h => h) (Or.inl ⟨by rfl, ?_⟩) ?_ ?_
          rotate_left
          · intro w'
            go_simp
            with_reducible rfl
          rotate_left
          · simp only [Act.put, List.setIfInBounds_toArray, List.set_cons_zero, List.set_cons_succ, i64_w, i32_w]
            rfl
          refine pure_ (i := 3) (N := some 15) (v := ?_) (a' := ?_) #[true, true, true, true, false, false, false, false] rfl rfl (any_of HT_.out (by kernel_rfl)) (fun _ _ _ h => h) (Or.inl ⟨by rfl, ?_⟩) ?_ ?_
          rotate_left
          · intro w'
            go_simp
            with_reducible rfl
          rotate_left
          · simp only [Act.put, List.setIfInBounds_toArray, List.set_cons_zero, List.set_cons_succ, i64_w, i32_w]
            rfl
          refine pure_ (i := 5) (N := some 17) (v := ?_) (a' := ?_) #[true, true, true, true, false, true, false, false] rfl rfl (any_of HT_.out (by kernel_rfl)) (fun _ _ _ h => h) (Or.inl ⟨by rfl, ?_⟩) ?_ ?_
          rotate_left
          · intro w'
            go_simp
            with_reducible rfl
          rotate_left
          · simp only [Act.put, List.setIfInBounds_toArray, List.set_cons_zero, List.set_cons_succ, i64_w, i32_w]
            rfl
          refine take_ (i := 4) (N := some 16) (v := ?_) (a' := ?_) #[true, true, true, true, true, true, false, false] rfl rfl (take_ofW HT_.out HW_.out (by kernel_rfl)) (fun _ _ _ h => h) (Or.inl ⟨by rfl, ?_⟩) hHeld ?_ ?_
          rotate_left
          · rintro w' ⟨s0, s1, s2, s3⟩
            go_simp
            with_reducible rfl
          rotate_left
          · simp only [Act.put, List.setIfInBounds_toArray, List.set_cons_zero, List.set_cons_succ, i64_w, i32_w]
            rfl
          refine one_ (i := 6) (N := some 18) #[true, true, true, true, true, true, true, false] rfl rfl (one_of HT_.out (by kernel_rfl)) (by decide) (fun K hK => ?_)
          (first | refine goes_ Try.func70 (by kernel_rfl) rfl #[.int .i64 x1_1] (by rfl) rfl rfl (by (try simp only [List.map_toArray, List.map_cons, List.map_nil]); first | done | rfl | (simp only [List.length_drop, List.length_take]; rfl)) ?_ | refine RPW.goesV_ Try.func70 (by kernel_rfl) rfl #[.int .i64 x1_1] (by rfl) rfl rfl rfl (by (try simp only [List.map_toArray, List.map_cons, List.map_nil]); first | done | rfl | (simp only [List.length_drop, List.length_take]; rfl)) ?_)
          with_reducible refine (laws_markText.calls k1 x1_1 t102 _ A5.out).mono ?_
          rintro e w8 ⟨rfl, hb⟩
          refine ⟨_, rfl, ?_⟩
          have n0_ := Aside0.mk (below_step (by repeat (first | (with_reducible first | exact HB.out | apply below_alloc | apply pw_below_drewN | apply below_drew1) | exact HB.out)) hb)
          clear HB
          have HB := n0_
          clear n0_
          (try clear hb)
          (try clear hb2)
          (try clear hk)
          (try clear hi)
          refine hK.out _ _ ⟨((HB.out.cell (World.block_lt_of_cell? w _ hw101_0)).trans hw101_0), ((HB.out.cell (World.block_lt_of_cell? w _ hw101_1)).trans hw101_1), ((HB.out.cell (World.block_lt_of_cell? w _ hw101_2)).trans hw101_2), ((HB.out.cell (World.block_lt_of_cell? w _ hw101_3)).trans hw101_3)⟩ (fun hHeld => ?_)
          clear hK K
          refine norm_ (a' := ?_) ?_ ?_
          rotate_left
          · show Act.put _ (some 18) _ = _
            simp only [Act.put, List.setIfInBounds_toArray, List.set_cons_zero, List.set_cons_succ, i64_w, i32_w]
            rfl
          refine pure_ (i := 7) (N := some 19) (v := ?_) (a' := ?_) #[true, true, true, true, true, true, true, true] rfl rfl (any_of HT_.out (by kernel_rfl)) (fun _ _ _ h => h) (Or.inl ⟨by rfl, ?_⟩) ?_ ?_
          rotate_left
          · intro w'
            go_simp
            with_reducible rfl
          rotate_left
          · simp only [Act.put, List.setIfInBounds_toArray, List.set_cons_zero, List.set_cons_succ, i64_w, i32_w]
            rfl
          refine done_ (done_of HT_.out (by kernel_rfl)) ?_
          go_upto_if 19 with (fail)
          have H := HC6.out
          clear HC6
          by_cases c9 : ((rd_T71 l0 x5_1).f0).toList = t102.toList
          · rw [if_pos c9] at H
            have c9b0 : (((rd_T71 l0 x5_1).f0).toList == t102.toList) = true := beq_iff_eq.mpr c9
            have c9b1 : (((rd_T71 l0 x5_1).f0).toList != t102.toList) = false := bne_eq_false_iff_eq.mpr c9
            clear c9
            (first | rw [c9b0] | (simp only [i64_w, i32_w]; rw [c9b0]) | (simp only [c9b2, Bool.not_true, Bool.not_false]) | (simp only [c9b1, Bool.not_true, Bool.not_false]) | (simp only [c9b0, Bool.not_true, Bool.not_false]) | skip)
            replace H := Option.bind_eq_some_iff.mp H
            obtain ⟨t104, A100, H⟩ := H
            replace H : (if ((rd_T71 l0 x5_1).f1.f0).toList = t104.toList then (if ((rd_T71 l0 x5_1).f1.f1) = (wrap64 ((wrap64 (x1_1 + 1)) + 1)) then (if ((rd_T71 l0 x5_1).f1.f2) = (wrap64 ((wrap64 ((wrap64 (x1_1 + 1)) + 1)) + 1)) then (laws_heldEntryS.l0 k1 l0 (wrap64 ((wrap64 ((wrap64 ((wrap64 (x1_1 + 1)) + 1)) + 1)) + 1)) (wrap64 (x5_1 + 1))) else (some (-1))) else (some (-1))) else (some (-1))) = some r := H
            have A10 := Aside0.mk A100
            clear A100
            have HC11 := Aside0.mk H
            clear H
            try go_wp2
            (try (rw [drewN_self w8]; generalize hq_ : World.drewN w8 _ = w8; have n0_ : Aside0 (Below w.heap.size w w8) := ⟨by rw [← hq_]; exact (by repeat (first | (with_reducible first | exact HB.out | apply below_alloc | apply pw_below_drewN | apply below_drew1) | exact HB.out))⟩; clear HB hq_; have HB := n0_; clear n0_))
            have n0_ := Aside0.mk (below_drew1 HB.out)
            clear HB
            have HB := n0_
            clear n0_
            have p103 : 0 ≤ (x5_1 : Int) := of_decide_eq_true (by first | (with_reducible assumption) | assumption)
            have q103 : x5_1 < (l0.length : Int) := of_decide_eq_true (by first | (with_reducible assumption) | assumption)
            obtain ⟨ad103, e103, hx103_0, hx103_1, hx103_2, hx103_3⟩ := at_T71 HR0.out x5_1 p103 q103
            have hw103_3 := hx103_3
            have hw103_2 := hx103_2
            have hw103_1 := hx103_1
            have hw103_0 := hx103_0
            obtain rfl : ad101 = ad103 := (by injection e103)
            replace hx103_0 := (HB.out.cell (World.block_lt_of_cell? w _ hx103_0)).trans hx103_0
            replace hx103_1 := (HB.out.cell (World.block_lt_of_cell? w _ hx103_1)).trans hx103_1
            replace hx103_2 := (HB.out.cell (World.block_lt_of_cell? w _ hx103_2)).trans hx103_2
            replace hx103_3 := (HB.out.cell (World.block_lt_of_cell? w _ hx103_3)).trans hx103_3
            replace p103 := eq_true p103
            replace q103 := eq_true q103
            refine start_ (n := 9) (S := fun w' => w'.cell? (ad101.add ((x5_1).toNat * 4)) = some (.string ((rd_T71 l0 x5_1).f0)) ∧ w'.cell? ⟨(ad101.add ((x5_1).toNat * 4)).block, (ad101.add ((x5_1).toNat * 4)).off + 1, none⟩ = some (.string ((rd_T71 l0 x5_1).f1.f0)) ∧ w'.cell? ⟨(ad101.add ((x5_1).toNat * 4)).block, (ad101.add ((x5_1).toNat * 4)).off + 2, none⟩ = some (.int .i64 ((rd_T71 l0 x5_1).f1.f1)) ∧ w'.cell? ⟨(ad101.add ((x5_1).toNat * 4)).block, (ad101.add ((x5_1).toNat * 4)).off + 3, none⟩ = some (.int .i64 ((rd_T71 l0 x5_1).f1.f2))) (ds := []) #[false, false, false, false, false, false, false, false, false] (by kernel_rfl) rfl rfl ⟨((HB.out.cell (World.block_lt_of_cell? w _ hw103_0)).trans hw103_0), ((HB.out.cell (World.block_lt_of_cell? w _ hw103_1)).trans hw103_1), ((HB.out.cell (World.block_lt_of_cell? w _ hw103_2)).trans hw103_2), ((HB.out.cell (World.block_lt_of_cell? w _ hw103_3)).trans hw103_3)⟩ (fun hHeld => ?_); refine with_tabW laws_heldEntryS.tab7 laws_heldEntryS.bits7 (fun HT_ HW_ => ?_)
            generalize w8.drew = w12 at HB hx103_0 hx103_1 hx103_2 hx103_3 hHeld ⊢
            refine pure_ (i := 0) (N := some 22) (v := ?_) (a' := ?_) #[true, false, false, false, false, false, false, false, false] rfl rfl (any_of HT_.out (by kernel_rfl)) (fun _ _ _ h => h) (Or.inl ⟨by rfl, ?_⟩) ?_ ?_
            rotate_left
            · intro w'
              go_simp
              with_reducible rfl
            rotate_left
            · simp only [Act.put, List.setIfInBounds_toArray, List.set_cons_zero, List.set_cons_succ, i64_w, i32_w]
              rfl
            refine pure_ (i := 1) (N := some 23) (v := ?_) (a' := ?_) #[true, true, false, false, false, false, false, false, false] rfl rfl (any_of HT_.out (by kernel_rfl)) (fun _ _ _ h => h) (Or.inl ⟨by rfl, ?_⟩) ?_ ?_
            rotate_left
            · intro w'
              go_simp
              with_reducible rfl
            rotate_left
            · simp only [Act.put, List.setIfInBounds_toArray, List.set_cons_zero, List.set_cons_succ, i64_w, i32_w]
              rfl
            refine pure_ (i := 2) (N := some 24) (v := ?_) (a' := ?_) #[true, true, true, false, false, false, false, false, false] rfl rfl (any_of HT_.out (by kernel_rfl)) (fun _ _ _ h => h) (Or.inl ⟨by rfl, ?_⟩) ?_ ?_
            rotate_left
            · intro w'
              go_simp
              with_reducible rfl
            rotate_left
            · simp only [Act.put, List.setIfInBounds_toArray, List.set_cons_zero, List.set_cons_succ, i64_w, i32_w]
              rfl
            refine pure_ (i := 3) (N := some 25) (v := ?_) (a' := ?_) #[true, true, true, true, false, false, false, false, false] rfl rfl (any_of HT_.out (by kernel_rfl)) (fun _ _ _ h => h) (Or.inl ⟨by rfl, ?_⟩) ?_ ?_
            rotate_left
            · intro w'
              go_simp
              with_reducible rfl
            rotate_left
            · simp only [Act.put, List.setIfInBounds_toArray, List.set_cons_zero, List.set_cons_succ, i64_w, i32_w]
              rfl
            refine pure_ (i := 4) (N := some 26) (v := ?_) (a' := ?_) #[true, true, true, true, true, false, false, false, false] rfl rfl (any_of HT_.out (by kernel_rfl)) (fun _ _ _ h => h) (Or.inl ⟨by rfl, ?_⟩) ?_ ?_
            rotate_left
            · intro w'
              go_simp
              with_reducible rfl
            rotate_left
            · simp only [Act.put, List.setIfInBounds_toArray, List.set_cons_zero, List.set_cons_succ, i64_w, i32_w]
              rfl
            refine pure_ (i := 6) (N := some 28) (v := ?_) (a' := ?_) #[true, true, true, true, true, false, true, false, false] rfl rfl (any_of HT_.out (by kernel_rfl)) (fun _ _ _ h => h) (Or.inl ⟨by rfl, ?_⟩) ?_ ?_
            rotate_left
            · intro w'
              go_simp
              with_reducible rfl
            rotate_left
            · simp only [Act.put, List.setIfInBounds_toArray, List.set_cons_zero, List.set_cons_succ, i64_w, i32_w]
              rfl
            refine take_ (i := 5) (N := some 27) (v := ?_) (a' := ?_) #[true, true, true, true, true, true, true, false, false] rfl rfl (take_ofW HT_.out HW_.out (by kernel_rfl)) (fun _ _ _ h => h) (Or.inl ⟨by rfl, ?_⟩) hHeld ?_ ?_
            rotate_left
            · rintro w' ⟨s0, s1, s2, s3⟩
              go_simp
              with_reducible rfl
            rotate_left
            · simp only [Act.put, List.setIfInBounds_toArray, List.set_cons_zero, List.set_cons_succ, i64_w, i32_w]
              rfl
            refine one_ (i := 7) (N := some 29) #[true, true, true, true, true, true, true, true, false] rfl rfl (one_of HT_.out (by kernel_rfl)) (by decide) (fun K hK => ?_)
            (first | refine goes_ Try.func70 (by kernel_rfl) rfl #[.int .i64 (wrap64 (x1_1 + 1))] (by rfl) rfl rfl (by (try simp only [List.map_toArray, List.map_cons, List.map_nil]); first | done | rfl | (simp only [List.length_drop, List.length_take]; rfl)) ?_ | refine RPW.goesV_ Try.func70 (by kernel_rfl) rfl #[.int .i64 (wrap64 (x1_1 + 1))] (by rfl) rfl rfl rfl (by (try simp only [List.map_toArray, List.map_cons, List.map_nil]); first | done | rfl | (simp only [List.length_drop, List.length_take]; rfl)) ?_)
            with_reducible refine (laws_markText.calls k1 (wrap64 (x1_1 + 1)) t104 _ A10.out).mono ?_
            rintro e w13 ⟨rfl, hb⟩
            refine ⟨_, rfl, ?_⟩
            have n0_ := Aside0.mk (below_step (by repeat (first | (with_reducible first | exact HB.out | apply below_alloc | apply pw_below_drewN | apply below_drew1) | exact HB.out)) hb)
            clear HB
            have HB := n0_
            clear n0_
            (try clear hb)
            (try clear hb2)
            (try clear hk)
            (try clear hi)
            refine hK.out _ _ ⟨((HB.out.cell (World.block_lt_of_cell? w _ hw103_0)).trans hw103_0), ((HB.out.cell (World.block_lt_of_cell? w _ hw103_1)).trans hw103_1), ((HB.out.cell (World.block_lt_of_cell? w _ hw103_2)).trans hw103_2), ((HB.out.cell (World.block_lt_of_cell? w _ hw103_3)).trans hw103_3)⟩ (fun hHeld => ?_)
            clear hK K
            refine norm_ (a' := ?_) ?_ ?_
            rotate_left
            · show Act.put _ (some 29) _ = _
              simp only [Act.put, List.setIfInBounds_toArray, List.set_cons_zero, List.set_cons_succ, i64_w, i32_w]
              rfl
            refine pure_ (i := 8) (N := some 30) (v := ?_) (a' := ?_) #[true, true, true, true, true, true, true, true, true] rfl rfl (any_of HT_.out (by kernel_rfl)) (fun _ _ _ h => h) (Or.inl ⟨by rfl, ?_⟩) ?_ ?_
            rotate_left
            · intro w'
              go_simp
              with_reducible rfl
            rotate_left
            · simp only [Act.put, List.setIfInBounds_toArray, List.set_cons_zero, List.set_cons_succ, i64_w, i32_w]
              rfl
            refine done_ (done_of HT_.out (by kernel_rfl)) ?_
            go_upto_if 30 with (fail)
            have H := HC11.out
            clear HC11
            by_cases c14 : ((rd_T71 l0 x5_1).f1.f0).toList = t104.toList
            · rw [if_pos c14] at H
              have c14b0 : (((rd_T71 l0 x5_1).f1.f0).toList == t104.toList) = true := beq_iff_eq.mpr c14
              have c14b1 : (((rd_T71 l0 x5_1).f1.f0).toList != t104.toList) = false := bne_eq_false_iff_eq.mpr c14
              clear c14
              (first | rw [c14b0] | (simp only [i64_w, i32_w]; rw [c14b0]) | (simp only [c14b2, Bool.not_true, Bool.not_false]) | (simp only [c14b1, Bool.not_true, Bool.not_false]) | (simp only [c14b0, Bool.not_true, Bool.not_false]) | skip)
              by_cases c15 : ((rd_T71 l0 x5_1).f1.f1) = (wrap64 ((wrap64 (x1_1 + 1)) + 1))
              · rw [if_pos c15] at H
                have c15b0 : (((rd_T71 l0 x5_1).f1.f1) == (wrap64 ((wrap64 (x1_1 + 1)) + 1))) = true := beq_iff_eq.mpr c15
                have c15b1 : (((rd_T71 l0 x5_1).f1.f1) != (wrap64 ((wrap64 (x1_1 + 1)) + 1))) = false := bne_eq_false_iff_eq.mpr c15
                clear c15
                by_cases c16 : ((rd_T71 l0 x5_1).f1.f2) = (wrap64 ((wrap64 ((wrap64 (x1_1 + 1)) + 1)) + 1))
                · rw [if_pos c16] at H
                  have c16b0 : (((rd_T71 l0 x5_1).f1.f2) == (wrap64 ((wrap64 ((wrap64 (x1_1 + 1)) + 1)) + 1))) = true := beq_iff_eq.mpr c16
                  have c16b1 : (((rd_T71 l0 x5_1).f1.f2) != (wrap64 ((wrap64 ((wrap64 (x1_1 + 1)) + 1)) + 1))) = false := bne_eq_false_iff_eq.mpr c16
                  clear c16
                  have H' := Aside0.mk H
                  clear H
                  have p105 : 0 ≤ (x5_1 : Int) := of_decide_eq_true (by first | (with_reducible assumption) | assumption)
                  have q105 : x5_1 < (l0.length : Int) := of_decide_eq_true (by first | (with_reducible assumption) | assumption)
                  obtain ⟨ad105, e105, hx105_0, hx105_1, hx105_2, hx105_3⟩ := at_T71 HR0.out x5_1 p105 q105
                  obtain rfl : ad101 = ad105 := (by injection e105)
                  replace hx105_0 := (HB.out.cell (World.block_lt_of_cell? w _ hx105_0)).trans hx105_0
                  replace hx105_1 := (HB.out.cell (World.block_lt_of_cell? w _ hx105_1)).trans hx105_1
                  replace hx105_2 := (HB.out.cell (World.block_lt_of_cell? w _ hx105_2)).trans hx105_2
                  replace hx105_3 := (HB.out.cell (World.block_lt_of_cell? w _ hx105_3)).trans hx105_3
                  replace p105 := eq_true p105
                  replace q105 := eq_true q105
                  have p106 : 0 ≤ (x5_1 : Int) := of_decide_eq_true (by first | (with_reducible assumption) | assumption)
                  have q106 : x5_1 < (l0.length : Int) := of_decide_eq_true (by first | (with_reducible assumption) | assumption)
                  obtain ⟨ad106, e106, hx106_0, hx106_1, hx106_2, hx106_3⟩ := at_T71 HR0.out x5_1 p106 q106
                  obtain rfl : ad101 = ad106 := (by injection e106)
                  replace hx106_0 := (HB.out.cell (World.block_lt_of_cell? w _ hx106_0)).trans hx106_0
                  replace hx106_1 := (HB.out.cell (World.block_lt_of_cell? w _ hx106_1)).trans hx106_1
                  replace hx106_2 := (HB.out.cell (World.block_lt_of_cell? w _ hx106_2)).trans hx106_2
                  replace hx106_3 := (HB.out.cell (World.block_lt_of_cell? w _ hx106_3)).trans hx106_3
                  replace p106 := eq_true p106
                  replace q106 := eq_true q106
                  go_wp2
                  go_roundg k1
                  case measure => have := HK1.out; omega
                  case rel => exact ⟨(wrap64 ((wrap64 ((wrap64 ((wrap64 (x1_1 + 1)) + 1)) + 1)) + 1)), (wrap64 (x5_1 + 1)), (by first | rfl | (simp; done) | (simp [*]; done)), (by first | rfl | (simp; done) | (simp [*]; done)), H', ⟨by have := HK1.out; omega⟩, ⟨by repeat (first | (with_reducible first | exact HB.out | apply below_alloc | apply pw_below_drewN | apply below_drew1) | exact HB.out)⟩⟩
                · rw [if_neg c16] at H
                  have c16b0 : (((rd_T71 l0 x5_1).f1.f2) == (wrap64 ((wrap64 ((wrap64 (x1_1 + 1)) + 1)) + 1))) = false := beq_eq_false_iff_ne.mpr c16
                  have c16b1 : (((rd_T71 l0 x5_1).f1.f2) != (wrap64 ((wrap64 ((wrap64 (x1_1 + 1)) + 1)) + 1))) = true := bne_iff_ne.mpr c16
                  obtain rfl := Option.some.inj H
                  have p105 : 0 ≤ (x5_1 : Int) := of_decide_eq_true (by first | (with_reducible assumption) | assumption)
                  have q105 : x5_1 < (l0.length : Int) := of_decide_eq_true (by first | (with_reducible assumption) | assumption)
                  obtain ⟨ad105, e105, hx105_0, hx105_1, hx105_2, hx105_3⟩ := at_T71 HR0.out x5_1 p105 q105
                  obtain rfl : ad101 = ad105 := (by injection e105)
                  replace hx105_0 := (HB.out.cell (World.block_lt_of_cell? w _ hx105_0)).trans hx105_0
                  replace hx105_1 := (HB.out.cell (World.block_lt_of_cell? w _ hx105_1)).trans hx105_1
                  replace hx105_2 := (HB.out.cell (World.block_lt_of_cell? w _ hx105_2)).trans hx105_2
                  replace hx105_3 := (HB.out.cell (World.block_lt_of_cell? w _ hx105_3)).trans hx105_3
                  replace p105 := eq_true p105
                  replace q105 := eq_true q105
                  have p106 : 0 ≤ (x5_1 : Int) := of_decide_eq_true (by first | (with_reducible assumption) | assumption)
                  have q106 : x5_1 < (l0.length : Int) := of_decide_eq_true (by first | (with_reducible assumption) | assumption)
                  obtain ⟨ad106, e106, hx106_0, hx106_1, hx106_2, hx106_3⟩ := at_T71 HR0.out x5_1 p106 q106
                  obtain rfl : ad101 = ad106 := (by injection e106)
                  replace hx106_0 := (HB.out.cell (World.block_lt_of_cell? w _ hx106_0)).trans hx106_0
                  replace hx106_1 := (HB.out.cell (World.block_lt_of_cell? w _ hx106_1)).trans hx106_1
                  replace hx106_2 := (HB.out.cell (World.block_lt_of_cell? w _ hx106_2)).trans hx106_2
                  replace hx106_3 := (HB.out.cell (World.block_lt_of_cell? w _ hx106_3)).trans hx106_3
                  replace p106 := eq_true p106
                  replace q106 := eq_true q106
                  go_wp2
                  go_ret
                  exact ⟨by first | rfl | (simp [errW_none, errW_some] <;> rfl) | (simp [*, errW_none, errW_some] <;> rfl), by repeat (first | (with_reducible first | exact HB.out | apply below_alloc | apply pw_below_drewN | apply below_drew1) | exact HB.out)⟩
              · rw [if_neg c15] at H
                have c15b0 : (((rd_T71 l0 x5_1).f1.f1) == (wrap64 ((wrap64 (x1_1 + 1)) + 1))) = false := beq_eq_false_iff_ne.mpr c15
                have c15b1 : (((rd_T71 l0 x5_1).f1.f1) != (wrap64 ((wrap64 (x1_1 + 1)) + 1))) = true := bne_iff_ne.mpr c15
                obtain rfl := Option.some.inj H
                have p105 : 0 ≤ (x5_1 : Int) := of_decide_eq_true (by first | (with_reducible assumption) | assumption)
                have q105 : x5_1 < (l0.length : Int) := of_decide_eq_true (by first | (with_reducible assumption) | assumption)
                obtain ⟨ad105, e105, hx105_0, hx105_1, hx105_2, hx105_3⟩ := at_T71 HR0.out x5_1 p105 q105
                obtain rfl : ad101 = ad105 := (by injection e105)
                replace hx105_0 := (HB.out.cell (World.block_lt_of_cell? w _ hx105_0)).trans hx105_0
                replace hx105_1 := (HB.out.cell (World.block_lt_of_cell? w _ hx105_1)).trans hx105_1
                replace hx105_2 := (HB.out.cell (World.block_lt_of_cell? w _ hx105_2)).trans hx105_2
                replace hx105_3 := (HB.out.cell (World.block_lt_of_cell? w _ hx105_3)).trans hx105_3
                replace p105 := eq_true p105
                replace q105 := eq_true q105
                go_wp2
                go_ret
                exact ⟨by first | rfl | (simp [errW_none, errW_some] <;> rfl) | (simp [*, errW_none, errW_some] <;> rfl), by repeat (first | (with_reducible first | exact HB.out | apply below_alloc | apply pw_below_drewN | apply below_drew1) | exact HB.out)⟩
            · rw [if_neg c14] at H
              have c14b0 : (((rd_T71 l0 x5_1).f1.f0).toList == t104.toList) = false := beq_eq_false_iff_ne.mpr c14
              have c14b1 : (((rd_T71 l0 x5_1).f1.f0).toList != t104.toList) = true := bne_iff_ne.mpr c14
              (first | rw [c14b0] | (simp only [i64_w, i32_w]; rw [c14b0]) | (simp only [c14b2, Bool.not_true, Bool.not_false]) | (simp only [c14b1, Bool.not_true, Bool.not_false]) | (simp only [c14b0, Bool.not_true, Bool.not_false]) | skip)
              obtain rfl := Option.some.inj H
              go_wp2
              go_ret
              exact ⟨by first | rfl | (simp [errW_none, errW_some] <;> rfl) | (simp [*, errW_none, errW_some] <;> rfl), by repeat (first | (with_reducible first | exact HB.out | apply below_alloc | apply pw_below_drewN | apply below_drew1) | exact HB.out)⟩
          · rw [if_neg c9] at H
            have c9b0 : (((rd_T71 l0 x5_1).f0).toList == t102.toList) = false := beq_eq_false_iff_ne.mpr c9
            have c9b1 : (((rd_T71 l0 x5_1).f0).toList != t102.toList) = true := bne_iff_ne.mpr c9
            (first | rw [c9b0] | (simp only [i64_w, i32_w]; rw [c9b0]) | (simp only [c9b2, Bool.not_true, Bool.not_false]) | (simp only [c9b1, Bool.not_true, Bool.not_false]) | (simp only [c9b0, Bool.not_true, Bool.not_false]) | skip)
            obtain rfl := Option.some.inj H
            go_wp2
            go_ret
            exact ⟨by first | rfl | (simp [errW_none, errW_some] <;> rfl) | (simp [*, errW_none, errW_some] <;> rfl), by repeat (first | (with_reducible first | exact HB.out | apply below_alloc | apply pw_below_drewN | apply below_drew1) | exact HB.out)⟩
        · rw [if_neg c4] at H
          exact absurd H (by simp)
      · rw [if_neg c3] at H
        have c3b0 : decide (x5_1 < (l0.length : Int)) = false := decide_eq_false c3
        clear c3
        obtain rfl := Option.some.inj H
        go_wp2
        go_ret
        exact ⟨by first | rfl | (simp [errW_none, errW_some] <;> rfl) | (simp [*, errW_none, errW_some] <;> rfl), by repeat (first | (with_reducible first | exact HB.out | apply below_alloc | apply pw_below_drewN | apply below_drew1) | exact HB.out)⟩
end Go.Proofs.Ythnigkbbmhnafaa.Q
namespace Go.Proofs.Ythnigkbbmhnafaa.Q
open Go.RowKit Go.Proofs.YthnigkbbmhnafaaW.PrintWords Go.Proofs.YthnigkbbmhnafaaW.PrintLast Go.Proofs.YthnigkbbmhnafaaW.PrintMore
attribute [local go_sem] max2_int min2_int max_two min_two max_three min_three max_four min_four
set_option linter.unusedVariables false
set_option linter.unusedSimpArgs false
mutual
def laws_FnExactApplyChanges.j0 : Nat → List (S68) → List (S101) → List (S71) → Int → List (S71) → List (S87) → List (S71) → Int → Bool → Option (Bool)
  | 0, _, _, _, _, _, _, _, _, _ => none
  | k + 1, x0, x1, x6, x7, x8, x9, x10, x11, x53 => if x53 = true then (some false) else ((laws_toEntryS.f k x0).bind fun t124 => ((laws_eqEntryS.f k x8 t124).bind fun t127 => (if t127 = true then ((laws_toChangeS.f k x1).bind fun t128 => ((laws_eqChangeS.f k x9 t128).bind fun t131 => (if t131 = true then ((laws_markEntryS.f k x8 1).bind fun bt132 => ((laws_markChangeS.f k x9 bt132.1).bind fun bt134 => (if bt134.1 < 0 then (laws_FnExactApplyChanges.j1 k x0 x1 x6 x7 x10 true) else ((laws_eqEntryS.f k x10 x6).bind fun t136 => (if t136 = true then (laws_FnExactApplyChanges.j1 k x0 x1 x6 x7 x10 (x11 != x7)) else (laws_FnExactApplyChanges.j1 k x0 x1 x6 x7 x10 true)))))) else (some false)))) else (some false))))
def laws_FnExactApplyChanges.j1 : Nat → List (S68) → List (S101) → List (S71) → Int → List (S71) → Bool → Option (Bool)
  | 0, _, _, _, _, _, _ => none
  | k + 1, x0, x1, x6, x7, x10, x82 => if x82 = true then (some false) else ((laws_markEntryS.f k x10 1).bind fun bt137 => ((laws_heldEntryS.f k bt137.2 1).bind fun t139 => (if t139 < 0 then (some false) else (if t139 = bt137.1 then ((laws_toEntryS.f k x0).bind fun t140 => ((laws_toChangeS.f k x1).bind fun t143 => ((impl_ApplyChanges.f k t140 t143).bind fun bt146 => ((laws_eqEntryS.f k bt146.1 x6).bind fun t150 => (if t150 = true then (laws_FnExactApplyChanges.j2 k bt137.2 bt137.1 (bt146.2 != x7)) else (laws_FnExactApplyChanges.j2 k bt137.2 bt137.1 true)))))) else (some false)))))
def laws_FnExactApplyChanges.j2 : Nat → List (S71) → Int → Bool → Option (Bool)
  | 0, _, _, _ => none
  | k + 1, x10, x13, x110 => if x110 = true then (some false) else ((laws_heldEntryS.f k x10 1).bind fun t151 => (if t151 < 0 then (some false) else (if t151 = x13 then (some true) else (some false))))
end
def laws_FnExactApplyChanges.f (k : Nat) (l0 : List (S68)) (l1 : List (S101)) : Option (Bool) := (laws_szEntryS.f k l0 1048576).bind fun t101 => (if t101 < 0 then (some true) else ((laws_szChangeS.f k l1 t101).bind fun t102 => (if t102 < 0 then (some true) else ((laws_toEntryS.f k l0).bind fun t103 => ((laws_toChangeS.f k l1).bind fun t106 => ((spec_ApplyChanges.f k t103 t106).bind fun bt109 => ((laws_toEntryS.f k l0).bind fun t113 => ((laws_toChangeS.f k l1).bind fun t116 => ((impl_ApplyChanges.f k t113 t116).bind fun bt119 => ((laws_eqEntryS.f k bt119.1 bt109.1).bind fun t123 => (if t123 = true then (laws_FnExactApplyChanges.j0 k l0 l1 bt109.1 bt109.2 t113 t116 bt119.1 bt119.2 (bt119.2 != bt109.2)) else (laws_FnExactApplyChanges.j0 k l0 l1 bt109.1 bt109.2 t113 t116 bt119.1 bt119.2 true))))))))))))
set_option maxHeartbeats 8000000 in
set_option maxRecDepth 100000 in
theorem laws_FnExactApplyChanges.calls (k : Nat) (A0 : Option Addr) (c0 : Nat) (l0 : List (S68)) (A1 : Option Addr) (c1 : Nat) (l1 : List (S101)) (r : Bool) (w : World) (hr0 : Kd.C k68 w A0 l0.length l0) (hc0 : l0.length ≤ c0) (hr1 : Kd.C k101 w A1 l1.length l1) (hc1 : l1.length ≤ c1) (h : laws_FnExactApplyChanges.f k l0 l1 = some r) :
    Calls Try.prog 12 #[.slice A0 l0.length c0, .slice A1 l1.length c1] w fun e w' => e = .returned (.bool r) ∧ Below w.heap.size w w' := by
  have HR0 := Aside0.mk hr0
  have HC0 := Aside0.mk hc0
  clear hr0 hc0
  have HR1 := Aside0.mk hr1
  have HC1 := Aside0.mk hc1
  clear hr1 hc1
  have HB := Aside0.mk (Below.refl w.heap.size w)
  have H : ((laws_szEntryS.f k l0 1048576).bind fun t101 => (if t101 < 0 then (some true) else ((laws_szChangeS.f k l1 t101).bind fun t102 => (if t102 < 0 then (some true) else ((laws_toEntryS.f k l0).bind fun t103 => ((laws_toChangeS.f k l1).bind fun t106 => ((spec_ApplyChanges.f k t103 t106).bind fun bt109 => ((laws_toEntryS.f k l0).bind fun t113 => ((laws_toChangeS.f k l1).bind fun t116 => ((impl_ApplyChanges.f k t113 t116).bind fun bt119 => ((laws_eqEntryS.f k bt119.1 bt109.1).bind fun t123 => (if t123 = true then (laws_FnExactApplyChanges.j0 k l0 l1 bt109.1 bt109.2 t113 t116 bt119.1 bt119.2 (bt119.2 != bt109.2)) else (laws_FnExactApplyChanges.j0 k l0 l1 bt109.1 bt109.2 t113 t116 bt119.1 bt119.2 true))))))))))))) = some r := h
  clear h
  replace H := Option.bind_eq_some_iff.mp H
  obtain ⟨t101, A30, H⟩ := H
  replace H : (if t101 < 0 then (some true) else ((laws_szChangeS.f k l1 t101).bind fun t102 => (if t102 < 0 then (some true) else ((laws_toEntryS.f k l0).bind fun t103 => ((laws_toChangeS.f k l1).bind fun t106 => ((spec_ApplyChanges.f k t103 t106).bind fun bt109 => ((laws_toEntryS.f k l0).bind fun t113 => ((laws_toChangeS.f k l1).bind fun t116 => ((impl_ApplyChanges.f k t113 t116).bind fun bt119 => ((laws_eqEntryS.f k bt119.1 bt109.1).bind fun t123 => (if t123 = true then (laws_FnExactApplyChanges.j0 k l0 l1 bt109.1 bt109.2 t113 t116 bt119.1 bt119.2 (bt119.2 != bt109.2)) else (laws_FnExactApplyChanges.j0 k l0 l1 bt109.1 bt109.2 t113 t116 bt119.1 bt119.2 true)))))))))))) = some r := H
  have A3 := Aside0.mk A30
  clear A30
  have HC4 := Aside0.mk H
  clear H
  go_enter Try.func12, Try.ntmps12
  go_upto_if 21 with (first | ((with_reducible refine gate_callee (f := 13) rfl ?_); refine goesL_ (some 19) rfl rfl Try.func13 (by kernel_rfl) rfl #[.slice A0 l0.length c0, .int .i64 1048576] rfl (by (try simp only [List.map_toArray, List.map_cons, List.map_nil]); first | done | rfl | (simp only [List.length_drop, List.length_take]; rfl)) ?_; (with_reducible refine (laws_szEntryS.calls k _ _ l0 1048576 t101 _ ?side1 ?side2 A3.out).mono ?_); (case side1 => repeat (first | exact HR0.out | (with_reducible refine Kd.C_alloc ?_ _) | (with_reducible refine Kd.C_drewN ?_ _) | (with_reducible refine Kd.C_drew ?_))); (case side2 => exact HC0.out); rintro e w5 ⟨rfl, hb⟩; refine ⟨_, rfl, ?_⟩; have n0_ := Aside0.mk (below_step (by repeat (first | (with_reducible first | exact HB.out | apply below_alloc | apply pw_below_drewN | apply below_drew1) | exact HB.out)) hb); clear HB; have HB := n0_; clear n0_; (try clear hb); (try clear hb2); (try clear hk); (try clear hi)))
  (try simp only [Act.put, List.setIfInBounds_toArray, List.set_cons_zero, List.set_cons_succ])
  have H := HC4.out
  clear HC4
  by_cases c6 : t101 < 0
  · rw [if_pos c6] at H
    have c6b0 : decide (t101 < 0) = true := decide_eq_true c6
    clear c6
    (first | rw [c6b0] | (simp only [i64_w, i32_w]; rw [c6b0]) | (simp only [c6b2, Bool.not_true, Bool.not_false]) | (simp only [c6b1, Bool.not_true, Bool.not_false]) | (simp only [c6b0, Bool.not_true, Bool.not_false]) | skip)
    obtain rfl := Option.some.inj H
    go_wp2
    go_ret
    exact ⟨by first | rfl | (simp [errW_none, errW_some] <;> rfl) | (simp [*, errW_none, errW_some] <;> rfl), by repeat (first | (with_reducible first | exact HB.out | apply below_alloc | apply pw_below_drewN | apply below_drew1) | exact HB.out)⟩
  · rw [if_neg c6] at H
    have c6b0 : decide (t101 < 0) = false := decide_eq_false c6
    clear c6
    (first | rw [c6b0] | (simp only [i64_w, i32_w]; rw [c6b0]) | (simp only [c6b2, Bool.not_true, Bool.not_false]) | (simp only [c6b1, Bool.not_true, Bool.not_false]) | (simp only [c6b0, Bool.not_true, Bool.not_false]) | skip)
    replace H := Option.bind_eq_some_iff.mp H
    obtain ⟨t102, A70, H⟩ := H
    replace H : (if t102 < 0 then (some true) else ((laws_toEntryS.f k l0).bind fun t103 => ((laws_toChangeS.f k l1).bind fun t106 => ((spec_ApplyChanges.f k t103 t106).bind fun bt109 => ((laws_toEntryS.f k l0).bind fun t113 => ((laws_toChangeS.f k l1).bind fun t116 => ((impl_ApplyChanges.f k t113 t116).bind fun bt119 => ((laws_eqEntryS.f k bt119.1 bt109.1).bind fun t123 => (if t123 = true then (laws_FnExactApplyChanges.j0 k l0 l1 bt109.1 bt109.2 t113 t116 bt119.1 bt119.2 (bt119.2 != bt109.2)) else (laws_FnExactApplyChanges.j0 k l0 l1 bt109.1 bt109.2 t113 t116 bt119.1 bt119.2 true)))))))))) = some r := H
    have A7 := Aside0.mk A70
    clear A70
    have HC8 := Aside0.mk H
    clear H
    go_upto_if 26 with (first | ((with_reducible refine gate_callee (f := 46) rfl ?_); refine goesL_ (some 24) rfl rfl Try.func46 (by kernel_rfl) rfl #[.slice A1 l1.length c1, .int .i64 t101] rfl (by (try simp only [List.map_toArray, List.map_cons, List.map_nil]); first | done | rfl | (simp only [List.length_drop, List.length_take]; rfl)) ?_; (with_reducible refine (laws_szChangeS.calls k _ _ l1 t101 t102 _ ?side1 ?side2 A7.out).mono ?_); (case side1 => repeat (first | exact (Kd.C_below HR1.out (by repeat (first | (with_reducible first | exact HB.out | apply below_alloc | apply pw_below_drewN | apply below_drew1) | exact HB.out))) | (with_reducible refine Kd.C_alloc ?_ _) | (with_reducible refine Kd.C_drewN ?_ _) | (with_reducible refine Kd.C_drew ?_))); (case side2 => exact HC1.out); rintro e w9 ⟨rfl, hb⟩; refine ⟨_, rfl, ?_⟩; have n0_ := Aside0.mk (below_step (by repeat (first | (with_reducible first | exact HB.out | apply below_alloc | apply pw_below_drewN | apply below_drew1) | exact HB.out)) hb); clear HB; have HB := n0_; clear n0_; (try clear hb); (try clear hb2); (try clear hk); (try clear hi)))
    (try simp only [Act.put, List.setIfInBounds_toArray, List.set_cons_zero, List.set_cons_succ])
    have H := HC8.out
    clear HC8
    by_cases c10 : t102 < 0
    · rw [if_pos c10] at H
      have c10b0 : decide (t102 < 0) = true := decide_eq_true c10
      clear c10
      (first | rw [c10b0] | (simp only [i64_w, i32_w]; rw [c10b0]) | (simp only [c10b2, Bool.not_true, Bool.not_false]) | (simp only [c10b1, Bool.not_true, Bool.not_false]) | (simp only [c10b0, Bool.not_true, Bool.not_false]) | skip)
      obtain rfl := Option.some.inj H
      go_wp2
      go_ret
      exact ⟨by first | rfl | (simp [errW_none, errW_some] <;> rfl) | (simp [*, errW_none, errW_some] <;> rfl), by repeat (first | (with_reducible first | exact HB.out | apply below_alloc | apply pw_below_drewN | apply below_drew1) | exact HB.out)⟩
    · rw [if_neg c10] at H
      have c10b0 : decide (t102 < 0) = false := decide_eq_false c10
      clear c10
      (first | rw [c10b0] | (simp only [i64_w, i32_w]; rw [c10b0]) | (simp only [c10b2, Bool.not_true, Bool.not_false]) | (simp only [c10b1, Bool.not_true, Bool.not_false]) | (simp only [c10b0, Bool.not_true, Bool.not_false]) | skip)
      replace H := Option.bind_eq_some_iff.mp H
      obtain ⟨t103, A110, H⟩ := H
      replace H : ((laws_toChangeS.f k l1).bind fun t106 => ((spec_ApplyChanges.f k t103 t106).bind fun bt109 => ((laws_toEntryS.f k l0).bind fun t113 => ((laws_toChangeS.f k l1).bind fun t116 => ((impl_ApplyChanges.f k t113 t116).bind fun bt119 => ((laws_eqEntryS.f k bt119.1 bt109.1).bind fun t123 => (if t123 = true then (laws_FnExactApplyChanges.j0 k l0 l1 bt109.1 bt109.2 t113 t116 bt119.1 bt119.2 (bt119.2 != bt109.2)) else (laws_FnExactApplyChanges.j0 k l0 l1 bt109.1 bt109.2 t113 t116 bt119.1 bt119.2 true)))))))) = some r := H
      have A11 := Aside0.mk A110
      clear A110
      replace H := Option.bind_eq_some_iff.mp H
      obtain ⟨t106, A120, H⟩ := H
      replace H : ((spec_ApplyChanges.f k t103 t106).bind fun bt109 => ((laws_toEntryS.f k l0).bind fun t113 => ((laws_toChangeS.f k l1).bind fun t116 => ((impl_ApplyChanges.f k t113 t116).bind fun bt119 => ((laws_eqEntryS.f k bt119.1 bt109.1).bind fun t123 => (if t123 = true then (laws_FnExactApplyChanges.j0 k l0 l1 bt109.1 bt109.2 t113 t116 bt119.1 bt119.2 (bt119.2 != bt109.2)) else (laws_FnExactApplyChanges.j0 k l0 l1 bt109.1 bt109.2 t113 t116 bt119.1 bt119.2 true))))))) = some r := H
      have A12 := Aside0.mk A120
      clear A120
      replace H := Option.bind_eq_some_iff.mp H
      obtain ⟨⟨t109, t110⟩, A130, H⟩ := H
      replace H : ((laws_toEntryS.f k l0).bind fun t113 => ((laws_toChangeS.f k l1).bind fun t116 => ((impl_ApplyChanges.f k t113 t116).bind fun bt119 => ((laws_eqEntryS.f k bt119.1 t109).bind fun t123 => (if t123 = true then (laws_FnExactApplyChanges.j0 k l0 l1 t109 t110 t113 t116 bt119.1 bt119.2 (bt119.2 != t110)) else (laws_FnExactApplyChanges.j0 k l0 l1 t109 t110 t113 t116 bt119.1 bt119.2 true)))))) = some r := H
      have A13 := Aside0.mk A130
      clear A130
      replace H := Option.bind_eq_some_iff.mp H
      obtain ⟨t113, A140, H⟩ := H
      replace H : ((laws_toChangeS.f k l1).bind fun t116 => ((impl_ApplyChanges.f k t113 t116).bind fun bt119 => ((laws_eqEntryS.f k bt119.1 t109).bind fun t123 => (if t123 = true then (laws_FnExactApplyChanges.j0 k l0 l1 t109 t110 t113 t116 bt119.1 bt119.2 (bt119.2 != t110)) else (laws_FnExactApplyChanges.j0 k l0 l1 t109 t110 t113 t116 bt119.1 bt119.2 true))))) = some r := H
      have A14 := Aside0.mk A140
      clear A140
      replace H := Option.bind_eq_some_iff.mp H
      obtain ⟨t116, A150, H⟩ := H
      replace H : ((impl_ApplyChanges.f k t113 t116).bind fun bt119 => ((laws_eqEntryS.f k bt119.1 t109).bind fun t123 => (if t123 = true then (laws_FnExactApplyChanges.j0 k l0 l1 t109 t110 t113 t116 bt119.1 bt119.2 (bt119.2 != t110)) else (laws_FnExactApplyChanges.j0 k l0 l1 t109 t110 t113 t116 bt119.1 bt119.2 true)))) = some r := H
      have A15 := Aside0.mk A150
      clear A150
      replace H := Option.bind_eq_some_iff.mp H
      obtain ⟨⟨t119, t120⟩, A160, H⟩ := H
      replace H : ((laws_eqEntryS.f k t119 t109).bind fun t123 => (if t123 = true then (laws_FnExactApplyChanges.j0 k l0 l1 t109 t110 t113 t116 t119 t120 (t120 != t110)) else (laws_FnExactApplyChanges.j0 k l0 l1 t109 t110 t113 t116 t119 t120 true))) = some r := H
      have A16 := Aside0.mk A160
      clear A160
      have HC17 := Aside0.mk H
      clear H
      go_upto_region 12 with (first | ((with_reducible refine gate_callee (f := 15) rfl ?_); refine goesL_ (some 29) rfl rfl Try.func15 (by kernel_rfl) rfl #[.slice A0 l0.length c0] rfl (by (try simp only [List.map_toArray, List.map_cons, List.map_nil]); first | done | rfl | (simp only [List.length_drop, List.length_take]; rfl)) ?_; (with_reducible refine (laws_toEntryS.calls k _ _ l0 t103 _ ?side1 ?side2 A11.out).mono ?_); (case side1 => repeat (first | exact (Kd.C_below HR0.out (by repeat (first | (with_reducible first | exact HB.out | apply below_alloc | apply pw_below_drewN | apply below_drew1) | exact HB.out))) | (with_reducible refine Kd.C_alloc ?_ _) | (with_reducible refine Kd.C_drewN ?_ _) | (with_reducible refine Kd.C_drew ?_))); (case side2 => exact HC0.out); rintro e w18 ⟨v104, rfl, ho0, hb⟩; refine ⟨_, rfl, ?_⟩; have n0_ := Aside0.mk (Kd.R_lower ho0 (below_size (by repeat (first | (with_reducible first | exact HB.out | apply below_alloc | apply pw_below_drewN | apply below_drew1) | exact HB.out)))); have n1_ := Aside0.mk (below_step (by repeat (first | (with_reducible first | exact HB.out | apply below_alloc | apply pw_below_drewN | apply below_drew1) | exact HB.out)) hb); clear HB; have HO105 := n0_; have HB := n1_; clear n0_ n1_; (try clear hb); (try clear hb2); (try clear hk); (try clear hi); (try clear ho0)) | ((with_reducible refine gate_callee (f := 48) rfl ?_); refine goesL_ (some 31) rfl rfl Try.func48 (by kernel_rfl) rfl #[.slice A1 l1.length c1] rfl (by (try simp only [List.map_toArray, List.map_cons, List.map_nil]); first | done | rfl | (simp only [List.length_drop, List.length_take]; rfl)) ?_; (with_reducible refine (laws_toChangeS.calls k _ _ l1 t106 _ ?side1 ?side2 A12.out).mono ?_); (case side1 => repeat (first | exact (Kd.C_below HR1.out HB.out) | (with_reducible refine Kd.C_alloc ?_ _) | (with_reducible refine Kd.C_drewN ?_ _) | (with_reducible refine Kd.C_drew ?_))); (case side2 => exact HC1.out); rintro e w19 ⟨v107, rfl, ho0, hb⟩; refine ⟨_, rfl, ?_⟩; have n0_ := Aside0.mk (Kd.R_below (by (with_reducible repeat (first | apply Kd.R_alloc | apply Kd.R_drewN | apply Kd.R_drew)); exact HO105.out) hb); have n1_ := Aside0.mk (Kd.R_lower ho0 (below_size (by repeat (first | (with_reducible first | exact HB.out | apply below_alloc | apply pw_below_drewN | apply below_drew1) | exact HB.out)))); have n2_ := Aside0.mk (below_step (by repeat (first | (with_reducible first | exact HB.out | apply below_alloc | apply pw_below_drewN | apply below_drew1) | exact HB.out)) hb); clear HO105; clear HB; have HO105 := n0_; have HO108 := n1_; have HB := n2_; clear n0_ n1_ n2_; (try clear hb); (try clear hb2); (try clear hk); (try clear hi); (try clear ho0); obtain ⟨Ao20, co20, eo20⟩ := Kd.R_slice HO105.out; subst eo20; obtain ⟨Ao21, co21, eo21⟩ := Kd.R_slice HO108.out; subst eo21) | ((with_reducible refine gate_callee (f := 47) rfl ?_); refine goesL_ (some 32) rfl rfl Try.func47 (by kernel_rfl) rfl #[.slice Ao20 t103.length co20, .slice Ao21 t106.length co21] rfl (by (try simp only [List.map_toArray, List.map_cons, List.map_nil]); first | done | rfl | (simp only [List.length_drop, List.length_take]; rfl)) ?_; (with_reducible refine (spec_ApplyChanges.calls k _ _ t103 _ _ t106 t109 t110 _ ?side1 ?side2 ?side3 ?side4 A13.out).mono ?_); (case side1 => repeat (first | exact (Kd.R_reads' HO105.out).2.2 | (with_reducible refine Kd.C_alloc ?_ _) | (with_reducible refine Kd.C_drewN ?_ _) | (with_reducible refine Kd.C_drew ?_))); (case side2 => exact (Kd.R_reads' HO105.out).2.1); (case side3 => repeat (first | exact (Kd.R_reads' HO108.out).2.2 | (with_reducible refine Kd.C_alloc ?_ _) | (with_reducible refine Kd.C_drewN ?_ _) | (with_reducible refine Kd.C_drew ?_))); (case side4 => exact (Kd.R_reads' HO108.out).2.1); rintro e w22 ⟨v111, rfl, ho0, hb⟩; refine ⟨_, rfl, ?_⟩; have n0_ := Aside0.mk (Kd.R_elder' (by (with_reducible repeat (first | apply Kd.R_alloc | apply Kd.R_drewN | apply Kd.R_drew)); exact HO105.out) (Kd.R_base ho0) hb); have n1_ := Aside0.mk (Kd.R_below (by (with_reducible repeat (first | apply Kd.R_alloc | apply Kd.R_drewN | apply Kd.R_drew)); exact HO108.out) hb); have n2_ := Aside0.mk (Kd.R_lower (Kd.R_new' ho0 (Kd.R_lt (by (with_reducible repeat (first | apply Kd.R_alloc | apply Kd.R_drewN | apply Kd.R_drew)); exact HO105.out))) (below_size (by repeat (first | (with_reducible first | exact HB.out | apply below_alloc | apply pw_below_drewN | apply below_drew1) | exact HB.out)))); have n3_ := Aside0.mk (below_step (by repeat (first | (with_reducible first | exact HB.out | apply below_alloc | apply pw_below_drewN | apply below_drew1) | exact HB.out)) hb); clear HO105; clear HO108; clear HB; have HO105 := n0_; have HO108 := n1_; have HO112 := n2_; have HB := n3_; clear n0_ n1_ n2_ n3_; (try clear hb); (try clear hb2); (try clear hk); (try clear hi); (try clear ho0)) | ((with_reducible refine gate_callee (f := 15) rfl ?_); refine goesL_ (some 36) rfl rfl Try.func15 (by kernel_rfl) rfl #[.slice A0 l0.length c0] rfl (by (try simp only [List.map_toArray, List.map_cons, List.map_nil]); first | done | rfl | (simp only [List.length_drop, List.length_take]; rfl)) ?_; (with_reducible refine (laws_toEntryS.calls k _ _ l0 t113 _ ?side1 ?side2 A14.out).mono ?_); (case side1 => repeat (first | exact (Kd.C_below HR0.out HB.out) | (with_reducible refine Kd.C_alloc ?_ _) | (with_reducible refine Kd.C_drewN ?_ _) | (with_reducible refine Kd.C_drew ?_))); (case side2 => exact HC0.out); rintro e w23 ⟨v114, rfl, ho0, hb⟩; refine ⟨_, rfl, ?_⟩; have n0_ := Aside0.mk (Kd.R_elder' (by (with_reducible repeat (first | apply Kd.R_alloc | apply Kd.R_drewN | apply Kd.R_drew)); exact HO105.out) (Kd.R_base ho0) hb); have n1_ := Aside0.mk (Kd.R_below (by (with_reducible repeat (first | apply Kd.R_alloc | apply Kd.R_drewN | apply Kd.R_drew)); exact HO108.out) hb); have n2_ := Aside0.mk (Kd.R_elder' (by (with_reducible repeat (first | apply Kd.R_alloc | apply Kd.R_drewN | apply Kd.R_drew)); exact HO112.out) (Kd.R_base ho0) hb); have n3_ := Aside0.mk (Kd.R_lower (Kd.R_new' (Kd.R_new' ho0 (Kd.R_lt (by (with_reducible repeat (first | apply Kd.R_alloc | apply Kd.R_drewN | apply Kd.R_drew)); exact HO105.out))) (Kd.R_lt (by (with_reducible repeat (first | apply Kd.R_alloc | apply Kd.R_drewN | apply Kd.R_drew)); exact HO112.out))) (below_size (by repeat (first | (with_reducible first | exact HB.out | apply below_alloc | apply pw_below_drewN | apply below_drew1) | exact HB.out)))); have n4_ := Aside0.mk (below_step (by repeat (first | (with_reducible first | exact HB.out | apply below_alloc | apply pw_below_drewN | apply below_drew1) | exact HB.out)) hb); clear HO105; clear HO108; clear HO112; clear HB; have HO105 := n0_; have HO108 := n1_; have HO112 := n2_; have HO115 := n3_; have HB := n4_; clear n0_ n1_ n2_ n3_ n4_; (try clear hb); (try clear hb2); (try clear hk); (try clear hi); (try clear ho0)) | ((with_reducible refine gate_callee (f := 48) rfl ?_); refine goesL_ (some 38) rfl rfl Try.func48 (by kernel_rfl) rfl #[.slice A1 l1.length c1] rfl (by (try simp only [List.map_toArray, List.map_cons, List.map_nil]); first | done | rfl | (simp only [List.length_drop, List.length_take]; rfl)) ?_; (with_reducible refine (laws_toChangeS.calls k _ _ l1 t116 _ ?side1 ?side2 A15.out).mono ?_); (case side1 => repeat (first | exact (Kd.C_below HR1.out HB.out) | (with_reducible refine Kd.C_alloc ?_ _) | (with_reducible refine Kd.C_drewN ?_ _) | (with_reducible refine Kd.C_drew ?_))); (case side2 => exact HC1.out); rintro e w24 ⟨v117, rfl, ho0, hb⟩; refine ⟨_, rfl, ?_⟩; have n0_ := Aside0.mk (Kd.R_below (by (with_reducible repeat (first | apply Kd.R_alloc | apply Kd.R_drewN | apply Kd.R_drew)); exact HO105.out) hb); have n1_ := Aside0.mk (Kd.R_elder' (by (with_reducible repeat (first | apply Kd.R_alloc | apply Kd.R_drewN | apply Kd.R_drew)); exact HO108.out) (Kd.R_base ho0) hb); have n2_ := Aside0.mk (Kd.R_below (by (with_reducible repeat (first | apply Kd.R_alloc | apply Kd.R_drewN | apply Kd.R_drew)); exact HO112.out) hb); have n3_ := Aside0.mk (Kd.R_below (by (with_reducible repeat (first | apply Kd.R_alloc | apply Kd.R_drewN | apply Kd.R_drew)); exact HO115.out) hb); have n4_ := Aside0.mk (Kd.R_lower (Kd.R_new' ho0 (Kd.R_lt (by (with_reducible repeat (first | apply Kd.R_alloc | apply Kd.R_drewN | apply Kd.R_drew)); exact HO108.out))) (below_size (by repeat (first | (with_reducible first | exact HB.out | apply below_alloc | apply pw_below_drewN | apply below_drew1) | exact HB.out)))); have n5_ := Aside0.mk (below_step (by repeat (first | (with_reducible first | exact HB.out | apply below_alloc | apply pw_below_drewN | apply below_drew1) | exact HB.out)) hb); clear HO105; clear HO108; clear HO112; clear HO115; clear HB; have HO105 := n0_; have HO108 := n1_; have HO112 := n2_; have HO115 := n3_; have HO118 := n4_; have HB := n5_; clear n0_ n1_ n2_ n3_ n4_ n5_; (try clear hb); (try clear hb2); (try clear hk); (try clear hi); (try clear ho0); obtain ⟨Ao25, co25, eo25⟩ := Kd.R_slice HO115.out; subst eo25; obtain ⟨Ao26, co26, eo26⟩ := Kd.R_slice HO118.out; subst eo26) | ((with_reducible refine gate_callee (f := 49) rfl ?_); refine goesL_ (some 42) rfl rfl Try.func49 (by kernel_rfl) rfl #[.slice Ao25 t113.length co25, .slice Ao26 t116.length co26] rfl (by (try simp only [List.map_toArray, List.map_cons, List.map_nil]); first | done | rfl | (simp only [List.length_drop, List.length_take]; rfl)) ?_; (with_reducible refine (impl_ApplyChanges.calls k _ _ t113 _ _ t116 t119 t120 _ ?side1 ?side2 ?side3 ?side4 A16.out).mono ?_); (case side1 => repeat (first | exact (Kd.R_reads' HO115.out).2.2 | (with_reducible refine Kd.C_alloc ?_ _) | (with_reducible refine Kd.C_drewN ?_ _) | (with_reducible refine Kd.C_drew ?_))); (case side2 => exact (Kd.R_reads' HO115.out).2.1); (case side3 => repeat (first | exact (Kd.R_reads' HO118.out).2.2 | (with_reducible refine Kd.C_alloc ?_ _) | (with_reducible refine Kd.C_drewN ?_ _) | (with_reducible refine Kd.C_drew ?_))); (case side4 => exact (Kd.R_reads' HO118.out).2.1); rintro e w27 ⟨v121, rfl, ho0, hb⟩; refine ⟨_, rfl, ?_⟩; have n0_ := Aside0.mk (Kd.R_elder' (by (with_reducible repeat (first | apply Kd.R_alloc | apply Kd.R_drewN | apply Kd.R_drew)); exact HO105.out) (Kd.R_base ho0) hb); have n1_ := Aside0.mk (Kd.R_below (by (with_reducible repeat (first | apply Kd.R_alloc | apply Kd.R_drewN | apply Kd.R_drew)); exact HO108.out) hb); have n2_ := Aside0.mk (Kd.R_elder' (by (with_reducible repeat (first | apply Kd.R_alloc | apply Kd.R_drewN | apply Kd.R_drew)); exact HO112.out) (Kd.R_base ho0) hb); have n3_ := Aside0.mk (Kd.R_elder' (by (with_reducible repeat (first | apply Kd.R_alloc | apply Kd.R_drewN | apply Kd.R_drew)); exact HO115.out) (Kd.R_base ho0) hb); have n4_ := Aside0.mk (Kd.R_below (by (with_reducible repeat (first | apply Kd.R_alloc | apply Kd.R_drewN | apply Kd.R_drew)); exact HO118.out) hb); have n5_ := Aside0.mk (Kd.R_lower (Kd.R_new' (Kd.R_new' (Kd.R_new' ho0 (Kd.R_lt (by (with_reducible repeat (first | apply Kd.R_alloc | apply Kd.R_drewN | apply Kd.R_drew)); exact HO105.out))) (Kd.R_lt (by (with_reducible repeat (first | apply Kd.R_alloc | apply Kd.R_drewN | apply Kd.R_drew)); exact HO112.out))) (Kd.R_lt (by (with_reducible repeat (first | apply Kd.R_alloc | apply Kd.R_drewN | apply Kd.R_drew)); exact HO115.out))) (below_size (by repeat (first | (with_reducible first | exact HB.out | apply below_alloc | apply pw_below_drewN | apply below_drew1) | exact HB.out)))); have n6_ := Aside0.mk (below_step (by repeat (first | (with_reducible first | exact HB.out | apply below_alloc | apply pw_below_drewN | apply below_drew1) | exact HB.out)) hb); clear HO105; clear HO108; clear HO112; clear HO115; clear HO118; clear HB; have HO105 := n0_; have HO108 := n1_; have HO112 := n2_; have HO115 := n3_; have HO118 := n4_; have HO122 := n5_; have HB := n6_; clear n0_ n1_ n2_ n3_ n4_ n5_ n6_; (try clear hb); (try clear hb2); (try clear hk); (try clear hi); (try clear ho0)))
      (try simp only [Act.put, List.setIfInBounds_toArray, List.set_cons_zero, List.set_cons_succ])
      go_cut [53] (fun v53 wc => ∃ (kq : Nat) (x53_16 : Bool), v53 = .bool x53_16 ∧ Aside0 (laws_FnExactApplyChanges.j0 kq l0 l1 t109 t110 t113 t116 t119 t120 x53_16 = some r) ∧ Aside0 (kq ≤ k) ∧ Aside0 (Kd.R k71 71 wc w.heap.size (fun k_ => some k_ ≠ ((.slice Ao25 t113.length co25) : Value).ownBlock ∧ some k_ ≠ (v121 : Value).ownBlock) v111 t109) ∧ Aside0 (Kd.R k71 71 wc w.heap.size (fun k_ => some k_ ≠ (v111 : Value).ownBlock ∧ some k_ ≠ (v121 : Value).ownBlock) (.slice Ao25 t113.length co25) t113) ∧ Aside0 (Kd.R k87 87 wc w.heap.size (fun _ => True) (.slice Ao26 t116.length co26) t116) ∧ Aside0 (Kd.R k71 71 wc w.heap.size (fun k_ => some k_ ≠ (v111 : Value).ownBlock ∧ some k_ ≠ ((.slice Ao25 t113.length co25) : Value).ownBlock) v121 t119) ∧ Aside0 (Below w.heap.size w wc))
      case first =>
        have H := HC17.out
        clear HC17
        replace H := Option.bind_eq_some_iff.mp H
        obtain ⟨t123, A280, H⟩ := H
        replace H : (if t123 = true then (laws_FnExactApplyChanges.j0 k l0 l1 t109 t110 t113 t116 t119 t120 (t120 != t110)) else (laws_FnExactApplyChanges.j0 k l0 l1 t109 t110 t113 t116 t119 t120 true)) = some r := H
        have A28 := Aside0.mk A280
        clear A280
        by_cases c29 : t123 = true
        · subst c29
          have H1 : (laws_FnExactApplyChanges.j0 k l0 l1 t109 t110 t113 t116 t119 t120 (t120 != t110)) = some r := by rw [if_pos rfl] at H; exact H
          clear H
          have H := H1
          clear H1
          have H' := Aside0.mk H
          clear H
          obtain ⟨Ao30, co30, eo30⟩ := Kd.R_slice HO122.out
          subst eo30
          obtain ⟨Ao31, co31, eo31⟩ := Kd.R_slice HO112.out
          subst eo31
          go_wp2_with (first | ((with_reducible refine gate_callee (f := 17) rfl ?_); refine goesL_ (some 47) rfl rfl Try.func17 (by kernel_rfl) rfl #[.slice Ao30 t119.length co30, .slice Ao31 t109.length co31] rfl (by (try simp only [List.map_toArray, List.map_cons, List.map_nil]); first | done | rfl | (simp only [List.length_drop, List.length_take]; rfl)) ?_; (with_reducible refine (laws_eqEntryS.calls k _ _ t119 _ _ t109 true _ ?side1 ?side2 ?side3 ?side4 A28.out).mono ?_); (case side1 => repeat (first | exact (Kd.R_reads' HO122.out).2.2 | (with_reducible refine Kd.C_alloc ?_ _) | (with_reducible refine Kd.C_drewN ?_ _) | (with_reducible refine Kd.C_drew ?_))); (case side2 => exact (Kd.R_reads' HO122.out).2.1); (case side3 => repeat (first | exact (Kd.R_reads' HO112.out).2.2 | (with_reducible refine Kd.C_alloc ?_ _) | (with_reducible refine Kd.C_drewN ?_ _) | (with_reducible refine Kd.C_drew ?_))); (case side4 => exact (Kd.R_reads' HO112.out).2.1); rintro e w32 ⟨rfl, hb⟩; refine ⟨_, rfl, ?_⟩; have n0_ := Aside0.mk (Kd.R_below (by (with_reducible repeat (first | apply Kd.R_alloc | apply Kd.R_drewN | apply Kd.R_drew)); exact HO105.out) hb); have n1_ := Aside0.mk (Kd.R_below (by (with_reducible repeat (first | apply Kd.R_alloc | apply Kd.R_drewN | apply Kd.R_drew)); exact HO108.out) hb); have n2_ := Aside0.mk (Kd.R_below (by (with_reducible repeat (first | apply Kd.R_alloc | apply Kd.R_drewN | apply Kd.R_drew)); exact HO112.out) hb); have n3_ := Aside0.mk (Kd.R_below (by (with_reducible repeat (first | apply Kd.R_alloc | apply Kd.R_drewN | apply Kd.R_drew)); exact HO115.out) hb); have n4_ := Aside0.mk (Kd.R_below (by (with_reducible repeat (first | apply Kd.R_alloc | apply Kd.R_drewN | apply Kd.R_drew)); exact HO118.out) hb); have n5_ := Aside0.mk (Kd.R_below (by (with_reducible repeat (first | apply Kd.R_alloc | apply Kd.R_drewN | apply Kd.R_drew)); exact HO122.out) hb); have n6_ := Aside0.mk (below_step (by repeat (first | (with_reducible first | exact HB.out | apply below_alloc | apply pw_below_drewN | apply below_drew1) | exact HB.out)) hb); clear HO105; clear HO108; clear HO112; clear HO115; clear HO118; clear HO122; clear HB; have HO105 := n0_; have HO108 := n1_; have HO112 := n2_; have HO115 := n3_; have HO118 := n4_; have HO122 := n5_; have HB := n6_; clear n0_ n1_ n2_ n3_ n4_ n5_ n6_; (try clear hb); (try clear hb2); (try clear hk); (try clear hi)))
          go_meet
          case rel => exact ⟨_, ((t120 != t110)), (by first | rfl | (simp; done) | (simp [*]; done)), H', ⟨by first | omega | exact Nat.le_refl _⟩, ⟨by (with_reducible repeat (first | apply Kd.R_alloc | apply Kd.R_drewN | apply Kd.R_drew)); exact Kd.R_mono HO112.out (fun _ hk => ⟨hk.1.2, hk.2⟩)⟩, ⟨by (with_reducible repeat (first | apply Kd.R_alloc | apply Kd.R_drewN | apply Kd.R_drew)); exact Kd.R_mono HO115.out (fun _ hk => ⟨hk.1.2, hk.2⟩)⟩, ⟨by (with_reducible repeat (first | apply Kd.R_alloc | apply Kd.R_drewN | apply Kd.R_drew)); exact Kd.R_mono HO118.out (fun _ hk => trivial)⟩, ⟨by (with_reducible repeat (first | apply Kd.R_alloc | apply Kd.R_drewN | apply Kd.R_drew)); exact Kd.R_mono HO122.out (fun _ hk => ⟨hk.1.2, hk.2⟩)⟩, ⟨by repeat (first | (with_reducible first | exact HB.out | apply below_alloc | apply pw_below_drewN | apply below_drew1) | exact HB.out)⟩⟩
        · replace c29 := Bool.eq_false_iff.mpr c29
          subst c29
          have H1 : (laws_FnExactApplyChanges.j0 k l0 l1 t109 t110 t113 t116 t119 t120 true) = some r := by rw [if_neg (show ¬ (false = true) by decide)] at H; exact H
          clear H
          have H := H1
          clear H1
          have H' := Aside0.mk H
          clear H
          obtain ⟨Ao33, co33, eo33⟩ := Kd.R_slice HO122.out
          subst eo33
          obtain ⟨Ao34, co34, eo34⟩ := Kd.R_slice HO112.out
          subst eo34
          go_wp2_with (first | ((with_reducible refine gate_callee (f := 17) rfl ?_); refine goesL_ (some 47) rfl rfl Try.func17 (by kernel_rfl) rfl #[.slice Ao33 t119.length co33, .slice Ao34 t109.length co34] rfl (by (try simp only [List.map_toArray, List.map_cons, List.map_nil]); first | done | rfl | (simp only [List.length_drop, List.length_take]; rfl)) ?_; (with_reducible refine (laws_eqEntryS.calls k _ _ t119 _ _ t109 false _ ?side1 ?side2 ?side3 ?side4 A28.out).mono ?_); (case side1 => repeat (first | exact (Kd.R_reads' HO122.out).2.2 | (with_reducible refine Kd.C_alloc ?_ _) | (with_reducible refine Kd.C_drewN ?_ _) | (with_reducible refine Kd.C_drew ?_))); (case side2 => exact (Kd.R_reads' HO122.out).2.1); (case side3 => repeat (first | exact (Kd.R_reads' HO112.out).2.2 | (with_reducible refine Kd.C_alloc ?_ _) | (with_reducible refine Kd.C_drewN ?_ _) | (with_reducible refine Kd.C_drew ?_))); (case side4 => exact (Kd.R_reads' HO112.out).2.1); rintro e w35 ⟨rfl, hb⟩; refine ⟨_, rfl, ?_⟩; have n0_ := Aside0.mk (Kd.R_below (by (with_reducible repeat (first | apply Kd.R_alloc | apply Kd.R_drewN | apply Kd.R_drew)); exact HO105.out) hb); have n1_ := Aside0.mk (Kd.R_below (by (with_reducible repeat (first | apply Kd.R_alloc | apply Kd.R_drewN | apply Kd.R_drew)); exact HO108.out) hb); have n2_ := Aside0.mk (Kd.R_below (by (with_reducible repeat (first | apply Kd.R_alloc | apply Kd.R_drewN | apply Kd.R_drew)); exact HO112.out) hb); have n3_ := Aside0.mk (Kd.R_below (by (with_reducible repeat (first | apply Kd.R_alloc | apply Kd.R_drewN | apply Kd.R_drew)); exact HO115.out) hb); have n4_ := Aside0.mk (Kd.R_below (by (with_reducible repeat (first | apply Kd.R_alloc | apply Kd.R_drewN | apply Kd.R_drew)); exact HO118.out) hb); have n5_ := Aside0.mk (Kd.R_below (by (with_reducible repeat (first | apply Kd.R_alloc | apply Kd.R_drewN | apply Kd.R_drew)); exact HO122.out) hb); have n6_ := Aside0.mk (below_step (by repeat (first | (with_reducible first | exact HB.out | apply below_alloc | apply pw_below_drewN | apply below_drew1) | exact HB.out)) hb); clear HO105; clear HO108; clear HO112; clear HO115; clear HO118; clear HO122; clear HB; have HO105 := n0_; have HO108 := n1_; have HO112 := n2_; have HO115 := n3_; have HO118 := n4_; have HO122 := n5_; have HB := n6_; clear n0_ n1_ n2_ n3_ n4_ n5_ n6_; (try clear hb); (try clear hb2); (try clear hk); (try clear hi)))
          go_meet
          case rel => exact ⟨_, (true), (by first | rfl | (simp; done) | (simp [*]; done)), H', ⟨by first | omega | exact Nat.le_refl _⟩, ⟨by (with_reducible repeat (first | apply Kd.R_alloc | apply Kd.R_drewN | apply Kd.R_drew)); exact Kd.R_mono HO112.out (fun _ hk => ⟨hk.1.2, hk.2⟩)⟩, ⟨by (with_reducible repeat (first | apply Kd.R_alloc | apply Kd.R_drewN | apply Kd.R_drew)); exact Kd.R_mono HO115.out (fun _ hk => ⟨hk.1.2, hk.2⟩)⟩, ⟨by (with_reducible repeat (first | apply Kd.R_alloc | apply Kd.R_drewN | apply Kd.R_drew)); exact Kd.R_mono HO118.out (fun _ hk => trivial)⟩, ⟨by (with_reducible repeat (first | apply Kd.R_alloc | apply Kd.R_drewN | apply Kd.R_drew)); exact Kd.R_mono HO122.out (fun _ hk => ⟨hk.1.2, hk.2⟩)⟩, ⟨by repeat (first | (with_reducible first | exact HB.out | apply below_alloc | apply pw_below_drewN | apply below_drew1) | exact HB.out)⟩⟩
      case rest =>
        clear HC17
        try clear c1
        try clear c2
        try clear p2
        try clear c4
        try clear c6
        try clear c6b0
        try clear c6b1
        try clear c6b2
        try clear c10
        try clear c10b0
        try clear c10b1
        try clear c10b2
        try clear c12
        try clear c13
        try clear c15
        try clear c17
        try clear c29
        obtain ⟨kq, x53_16, rfl, HA, HJ16, HO_6, HO_8, HO_9, HO_10, HB⟩ := hcut
        cases kq with
        | zero => exact absurd HA.out (by simp [laws_FnExactApplyChanges.j0])
        | succ kj16 =>
          have H := HA.out
          clear HA
          simp only [laws_FnExactApplyChanges.j0] at H
          by_cases c36 : x53_16 = true
          · subst c36
            have H1 : (some false) = some r := by rw [if_pos rfl] at H; exact H
            clear H
            have H := H1
            clear H1
            obtain rfl := Option.some.inj H
            go_wp2
            go_ret
            exact ⟨by first | rfl | (simp [errW_none, errW_some] <;> rfl) | (simp [*, errW_none, errW_some] <;> rfl), by repeat (first | (with_reducible first | exact HB.out | apply below_alloc | apply pw_below_drewN | apply below_drew1) | exact HB.out)⟩
          · replace c36 := Bool.eq_false_iff.mpr c36
            subst c36
            have H1 : ((laws_toEntryS.f kj16 l0).bind fun t124 => ((laws_eqEntryS.f kj16 t113 t124).bind fun t127 => (if t127 = true then ((laws_toChangeS.f kj16 l1).bind fun t128 => ((laws_eqChangeS.f kj16 t116 t128).bind fun t131 => (if t131 = true then ((laws_markEntryS.f kj16 t113 1).bind fun bt132 => ((laws_markChangeS.f kj16 t116 bt132.1).bind fun bt134 => (if bt134.1 < 0 then (laws_FnExactApplyChanges.j1 kj16 l0 l1 t109 t110 t119 true) else ((laws_eqEntryS.f kj16 t119 t109).bind fun t136 => (if t136 = true then (laws_FnExactApplyChanges.j1 kj16 l0 l1 t109 t110 t119 (t120 != t110)) else (laws_FnExactApplyChanges.j1 kj16 l0 l1 t109 t110 t119 true)))))) else (some false)))) else (some false)))) = some r := by rw [if_neg (show ¬ (false = true) by decide)] at H; exact H
            clear H
            have H := H1
            clear H1
            replace H := Option.bind_eq_some_iff.mp H
            obtain ⟨t124, A370, H⟩ := H
            replace H : ((laws_eqEntryS.f kj16 t113 t124).bind fun t127 => (if t127 = true then ((laws_toChangeS.f kj16 l1).bind fun t128 => ((laws_eqChangeS.f kj16 t116 t128).bind fun t131 => (if t131 = true then ((laws_markEntryS.f kj16 t113 1).bind fun bt132 => ((laws_markChangeS.f kj16 t116 bt132.1).bind fun bt134 => (if bt134.1 < 0 then (laws_FnExactApplyChanges.j1 kj16 l0 l1 t109 t110 t119 true) else ((laws_eqEntryS.f kj16 t119 t109).bind fun t136 => (if t136 = true then (laws_FnExactApplyChanges.j1 kj16 l0 l1 t109 t110 t119 (t120 != t110)) else (laws_FnExactApplyChanges.j1 kj16 l0 l1 t109 t110 t119 true)))))) else (some false)))) else (some false))) = some r := H
            have A37 := Aside0.mk A370
            clear A370
            replace H := Option.bind_eq_some_iff.mp H
            obtain ⟨t127, A380, H⟩ := H
            replace H : (if t127 = true then ((laws_toChangeS.f kj16 l1).bind fun t128 => ((laws_eqChangeS.f kj16 t116 t128).bind fun t131 => (if t131 = true then ((laws_markEntryS.f kj16 t113 1).bind fun bt132 => ((laws_markChangeS.f kj16 t116 bt132.1).bind fun bt134 => (if bt134.1 < 0 then (laws_FnExactApplyChanges.j1 kj16 l0 l1 t109 t110 t119 true) else ((laws_eqEntryS.f kj16 t119 t109).bind fun t136 => (if t136 = true then (laws_FnExactApplyChanges.j1 kj16 l0 l1 t109 t110 t119 (t120 != t110)) else (laws_FnExactApplyChanges.j1 kj16 l0 l1 t109 t110 t119 true)))))) else (some false)))) else (some false)) = some r := H
            have A38 := Aside0.mk A380
            clear A380
            have HC39 := Aside0.mk H
            clear H
            go_upto_if 58 with (first | ((with_reducible refine gate_callee (f := 15) rfl ?_); refine goesL_ (some 56) rfl rfl Try.func15 (by kernel_rfl) rfl #[.slice A0 l0.length c0] rfl (by (try simp only [List.map_toArray, List.map_cons, List.map_nil]); first | done | rfl | (simp only [List.length_drop, List.length_take]; rfl)) ?_; (with_reducible refine (laws_toEntryS.calls kj16 _ _ l0 t124 _ ?side1 ?side2 A37.out).mono ?_); (case side1 => repeat (first | exact (Kd.C_below HR0.out (by repeat (first | (with_reducible first | exact HB.out | apply below_alloc | apply pw_below_drewN | apply below_drew1) | exact HB.out))) | (with_reducible refine Kd.C_alloc ?_ _) | (with_reducible refine Kd.C_drewN ?_ _) | (with_reducible refine Kd.C_drew ?_))); (case side2 => exact HC0.out); rintro e w40 ⟨v125, rfl, ho0, hb⟩; refine ⟨_, rfl, ?_⟩; have n0_ := Aside0.mk (Kd.R_elder' (by (with_reducible repeat (first | apply Kd.R_alloc | apply Kd.R_drewN | apply Kd.R_drew)); exact HO_6.out) (Kd.R_base ho0) hb); have n1_ := Aside0.mk (Kd.R_elder' (by (with_reducible repeat (first | apply Kd.R_alloc | apply Kd.R_drewN | apply Kd.R_drew)); exact HO_8.out) (Kd.R_base ho0) hb); have n2_ := Aside0.mk (Kd.R_below (by (with_reducible repeat (first | apply Kd.R_alloc | apply Kd.R_drewN | apply Kd.R_drew)); exact HO_9.out) hb); have n3_ := Aside0.mk (Kd.R_elder' (by (with_reducible repeat (first | apply Kd.R_alloc | apply Kd.R_drewN | apply Kd.R_drew)); exact HO_10.out) (Kd.R_base ho0) hb); have n4_ := Aside0.mk (Kd.R_lower (Kd.R_new' (Kd.R_new' (Kd.R_new' ho0 (Kd.R_lt (by (with_reducible repeat (first | apply Kd.R_alloc | apply Kd.R_drewN | apply Kd.R_drew)); exact HO_6.out))) (Kd.R_lt (by (with_reducible repeat (first | apply Kd.R_alloc | apply Kd.R_drewN | apply Kd.R_drew)); exact HO_8.out))) (Kd.R_lt (by (with_reducible repeat (first | apply Kd.R_alloc | apply Kd.R_drewN | apply Kd.R_drew)); exact HO_10.out))) (below_size (by repeat (first | (with_reducible first | exact HB.out | apply below_alloc | apply pw_below_drewN | apply below_drew1) | exact HB.out)))); have n5_ := Aside0.mk (below_step (by repeat (first | (with_reducible first | exact HB.out | apply below_alloc | apply pw_below_drewN | apply below_drew1) | exact HB.out)) hb); clear HO_6; clear HO_8; clear HO_9; clear HO_10; clear HB; have HO_6 := n0_; have HO_8 := n1_; have HO_9 := n2_; have HO_10 := n3_; have HO126 := n4_; have HB := n5_; clear n0_ n1_ n2_ n3_ n4_ n5_; (try clear hb); (try clear hb2); (try clear hk); (try clear hi); (try clear ho0); obtain ⟨Ao41, co41, eo41⟩ := Kd.R_slice HO126.out; subst eo41) | ((with_reducible refine gate_callee (f := 17) rfl ?_); refine goesL_ (some 57) rfl rfl Try.func17 (by kernel_rfl) rfl #[.slice Ao25 t113.length co25, .slice Ao41 t124.length co41] rfl (by (try simp only [List.map_toArray, List.map_cons, List.map_nil]); first | done | rfl | (simp only [List.length_drop, List.length_take]; rfl)) ?_; (with_reducible refine (laws_eqEntryS.calls kj16 _ _ t113 _ _ t124 t127 _ ?side1 ?side2 ?side3 ?side4 A38.out).mono ?_); (case side1 => repeat (first | exact (Kd.R_reads' HO_8.out).2.2 | (with_reducible refine Kd.C_alloc ?_ _) | (with_reducible refine Kd.C_drewN ?_ _) | (with_reducible refine Kd.C_drew ?_))); (case side2 => exact (Kd.R_reads' HO_8.out).2.1); (case side3 => repeat (first | exact (Kd.R_reads' HO126.out).2.2 | (with_reducible refine Kd.C_alloc ?_ _) | (with_reducible refine Kd.C_drewN ?_ _) | (with_reducible refine Kd.C_drew ?_))); (case side4 => exact (Kd.R_reads' HO126.out).2.1); rintro e w42 ⟨rfl, hb⟩; refine ⟨_, rfl, ?_⟩; have n0_ := Aside0.mk (Kd.R_below (by (with_reducible repeat (first | apply Kd.R_alloc | apply Kd.R_drewN | apply Kd.R_drew)); exact HO_6.out) hb); have n1_ := Aside0.mk (Kd.R_below (by (with_reducible repeat (first | apply Kd.R_alloc | apply Kd.R_drewN | apply Kd.R_drew)); exact HO_8.out) hb); have n2_ := Aside0.mk (Kd.R_below (by (with_reducible repeat (first | apply Kd.R_alloc | apply Kd.R_drewN | apply Kd.R_drew)); exact HO_9.out) hb); have n3_ := Aside0.mk (Kd.R_below (by (with_reducible repeat (first | apply Kd.R_alloc | apply Kd.R_drewN | apply Kd.R_drew)); exact HO_10.out) hb); have n4_ := Aside0.mk (Kd.R_below (by (with_reducible repeat (first | apply Kd.R_alloc | apply Kd.R_drewN | apply Kd.R_drew)); exact HO126.out) hb); have n5_ := Aside0.mk (below_step (by repeat (first | (with_reducible first | exact HB.out | apply below_alloc | apply pw_below_drewN | apply below_drew1) | exact HB.out)) hb); clear HO_6; clear HO_8; clear HO_9; clear HO_10; clear HO126; clear HB; have HO_6 := n0_; have HO_8 := n1_; have HO_9 := n2_; have HO_10 := n3_; have HO126 := n4_; have HB := n5_; clear n0_ n1_ n2_ n3_ n4_ n5_; (try clear hb); (try clear hb2); (try clear hk); (try clear hi)))
            (try simp only [Act.put, List.setIfInBounds_toArray, List.set_cons_zero, List.set_cons_succ])
            have H := HC39.out
            clear HC39
            by_cases c43 : t127 = true
            · subst c43
              have H1 : ((laws_toChangeS.f kj16 l1).bind fun t128 => ((laws_eqChangeS.f kj16 t116 t128).bind fun t131 => (if t131 = true then ((laws_markEntryS.f kj16 t113 1).bind fun bt132 => ((laws_markChangeS.f kj16 t116 bt132.1).bind fun bt134 => (if bt134.1 < 0 then (laws_FnExactApplyChanges.j1 kj16 l0 l1 t109 t110 t119 true) else ((laws_eqEntryS.f kj16 t119 t109).bind fun t136 => (if t136 = true then (laws_FnExactApplyChanges.j1 kj16 l0 l1 t109 t110 t119 (t120 != t110)) else (laws_FnExactApplyChanges.j1 kj16 l0 l1 t109 t110 t119 true)))))) else (some false)))) = some r := by rw [if_pos rfl] at H; exact H
              clear H
              have H := H1
              clear H1
              replace H := Option.bind_eq_some_iff.mp H
              obtain ⟨t128, A440, H⟩ := H
              replace H : ((laws_eqChangeS.f kj16 t116 t128).bind fun t131 => (if t131 = true then ((laws_markEntryS.f kj16 t113 1).bind fun bt132 => ((laws_markChangeS.f kj16 t116 bt132.1).bind fun bt134 => (if bt134.1 < 0 then (laws_FnExactApplyChanges.j1 kj16 l0 l1 t109 t110 t119 true) else ((laws_eqEntryS.f kj16 t119 t109).bind fun t136 => (if t136 = true then (laws_FnExactApplyChanges.j1 kj16 l0 l1 t109 t110 t119 (t120 != t110)) else (laws_FnExactApplyChanges.j1 kj16 l0 l1 t109 t110 t119 true)))))) else (some false))) = some r := H
              have A44 := Aside0.mk A440
              clear A440
              replace H := Option.bind_eq_some_iff.mp H
              obtain ⟨t131, A450, H⟩ := H
              replace H : (if t131 = true then ((laws_markEntryS.f kj16 t113 1).bind fun bt132 => ((laws_markChangeS.f kj16 t116 bt132.1).bind fun bt134 => (if bt134.1 < 0 then (laws_FnExactApplyChanges.j1 kj16 l0 l1 t109 t110 t119 true) else ((laws_eqEntryS.f kj16 t119 t109).bind fun t136 => (if t136 = true then (laws_FnExactApplyChanges.j1 kj16 l0 l1 t109 t110 t119 (t120 != t110)) else (laws_FnExactApplyChanges.j1 kj16 l0 l1 t109 t110 t119 true)))))) else (some false)) = some r := H
              have A45 := Aside0.mk A450
              clear A450
              have HC46 := Aside0.mk H
              clear H
              go_upto_if 63 with (first | ((with_reducible refine gate_callee (f := 48) rfl ?_); refine goesL_ (some 61) rfl rfl Try.func48 (by kernel_rfl) rfl #[.slice A1 l1.length c1] rfl (by (try simp only [List.map_toArray, List.map_cons, List.map_nil]); first | done | rfl | (simp only [List.length_drop, List.length_take]; rfl)) ?_; (with_reducible refine (laws_toChangeS.calls kj16 _ _ l1 t128 _ ?side1 ?side2 A44.out).mono ?_); (case side1 => repeat (first | exact (Kd.C_below HR1.out (by repeat (first | (with_reducible first | exact HB.out | apply below_alloc | apply pw_below_drewN | apply below_drew1) | exact HB.out))) | (with_reducible refine Kd.C_alloc ?_ _) | (with_reducible refine Kd.C_drewN ?_ _) | (with_reducible refine Kd.C_drew ?_))); (case side2 => exact HC1.out); rintro e w47 ⟨v129, rfl, ho0, hb⟩; refine ⟨_, rfl, ?_⟩; have n0_ := Aside0.mk (Kd.R_below (by (with_reducible repeat (first | apply Kd.R_alloc | apply Kd.R_drewN | apply Kd.R_drew)); exact HO_6.out) hb); have n1_ := Aside0.mk (Kd.R_below (by (with_reducible repeat (first | apply Kd.R_alloc | apply Kd.R_drewN | apply Kd.R_drew)); exact HO_8.out) hb); have n2_ := Aside0.mk (Kd.R_elder' (by (with_reducible repeat (first | apply Kd.R_alloc | apply Kd.R_drewN | apply Kd.R_drew)); exact HO_9.out) (Kd.R_base ho0) hb); have n3_ := Aside0.mk (Kd.R_below (by (with_reducible repeat (first | apply Kd.R_alloc | apply Kd.R_drewN | apply Kd.R_drew)); exact HO_10.out) hb); have n4_ := Aside0.mk (Kd.R_below (by (with_reducible repeat (first | apply Kd.R_alloc | apply Kd.R_drewN | apply Kd.R_drew)); exact HO126.out) hb); have n5_ := Aside0.mk (Kd.R_lower (Kd.R_new' ho0 (Kd.R_lt (by (with_reducible repeat (first | apply Kd.R_alloc | apply Kd.R_drewN | apply Kd.R_drew)); exact HO_9.out))) (below_size (by repeat (first | (with_reducible first | exact HB.out | apply below_alloc | apply pw_below_drewN | apply below_drew1) | exact HB.out)))); have n6_ := Aside0.mk (below_step (by repeat (first | (with_reducible first | exact HB.out | apply below_alloc | apply pw_below_drewN | apply below_drew1) | exact HB.out)) hb); clear HO_6; clear HO_8; clear HO_9; clear HO_10; clear HO126; clear HB; have HO_6 := n0_; have HO_8 := n1_; have HO_9 := n2_; have HO_10 := n3_; have HO126 := n4_; have HO130 := n5_; have HB := n6_; clear n0_ n1_ n2_ n3_ n4_ n5_ n6_; (try clear hb); (try clear hb2); (try clear hk); (try clear hi); (try clear ho0); obtain ⟨Ao48, co48, eo48⟩ := Kd.R_slice HO130.out; subst eo48) | ((with_reducible refine gate_callee (f := 29) rfl ?_); refine goesL_ (some 62) rfl rfl Try.func29 (by kernel_rfl) rfl #[.slice Ao26 t116.length co26, .slice Ao48 t128.length co48] rfl (by (try simp only [List.map_toArray, List.map_cons, List.map_nil]); first | done | rfl | (simp only [List.length_drop, List.length_take]; rfl)) ?_; (with_reducible refine (laws_eqChangeS.calls kj16 _ _ t116 _ _ t128 t131 _ ?side1 ?side2 ?side3 ?side4 A45.out).mono ?_); (case side1 => repeat (first | exact (Kd.R_reads' HO_9.out).2.2 | (with_reducible refine Kd.C_alloc ?_ _) | (with_reducible refine Kd.C_drewN ?_ _) | (with_reducible refine Kd.C_drew ?_))); (case side2 => exact (Kd.R_reads' HO_9.out).2.1); (case side3 => repeat (first | exact (Kd.R_reads' HO130.out).2.2 | (with_reducible refine Kd.C_alloc ?_ _) | (with_reducible refine Kd.C_drewN ?_ _) | (with_reducible refine Kd.C_drew ?_))); (case side4 => exact (Kd.R_reads' HO130.out).2.1); rintro e w49 ⟨rfl, hb⟩; refine ⟨_, rfl, ?_⟩; have n0_ := Aside0.mk (Kd.R_below (by (with_reducible repeat (first | apply Kd.R_alloc | apply Kd.R_drewN | apply Kd.R_drew)); exact HO_6.out) hb); have n1_ := Aside0.mk (Kd.R_below (by (with_reducible repeat (first | apply Kd.R_alloc | apply Kd.R_drewN | apply Kd.R_drew)); exact HO_8.out) hb); have n2_ := Aside0.mk (Kd.R_below (by (with_reducible repeat (first | apply Kd.R_alloc | apply Kd.R_drewN | apply Kd.R_drew)); exact HO_9.out) hb); have n3_ := Aside0.mk (Kd.R_below (by (with_reducible repeat (first | apply Kd.R_alloc | apply Kd.R_drewN | apply Kd.R_drew)); exact HO_10.out) hb); have n4_ := Aside0.mk (Kd.R_below (by (with_reducible repeat (first | apply Kd.R_alloc | apply Kd.R_drewN | apply Kd.R_drew)); exact HO126.out) hb); have n5_ := Aside0.mk (Kd.R_below (by (with_reducible repeat (first | apply Kd.R_alloc | apply Kd.R_drewN | apply Kd.R_drew)); exact HO130.out) hb); have n6_ := Aside0.mk (below_step (by repeat (first | (with_reducible first | exact HB.out | apply below_alloc | apply pw_below_drewN | apply below_drew1) | exact HB.out)) hb); clear HO_6; clear HO_8; clear HO_9; clear HO_10; clear HO126; clear HO130; clear HB; have HO_6 := n0_; have HO_8 := n1_; have HO_9 := n2_; have HO_10 := n3_; have HO126 := n4_; have HO130 := n5_; have HB := n6_; clear n0_ n1_ n2_ n3_ n4_ n5_ n6_; (try clear hb); (try clear hb2); (try clear hk); (try clear hi)))
              (try simp only [Act.put, List.setIfInBounds_toArray, List.set_cons_zero, List.set_cons_succ])
              have H := HC46.out
              clear HC46
              by_cases c50 : t131 = true
              · subst c50
                have H1 : ((laws_markEntryS.f kj16 t113 1).bind fun bt132 => ((laws_markChangeS.f kj16 t116 bt132.1).bind fun bt134 => (if bt134.1 < 0 then (laws_FnExactApplyChanges.j1 kj16 l0 l1 t109 t110 t119 true) else ((laws_eqEntryS.f kj16 t119 t109).bind fun t136 => (if t136 = true then (laws_FnExactApplyChanges.j1 kj16 l0 l1 t109 t110 t119 (t120 != t110)) else (laws_FnExactApplyChanges.j1 kj16 l0 l1 t109 t110 t119 true)))))) = some r := by rw [if_pos rfl] at H; exact H
                clear H
                have H := H1
                clear H1
                replace H := Option.bind_eq_some_iff.mp H
                obtain ⟨⟨t132, t133⟩, A510, H⟩ := H
                replace H : ((laws_markChangeS.f kj16 t116 t132).bind fun bt134 => (if bt134.1 < 0 then (laws_FnExactApplyChanges.j1 kj16 l0 l1 t109 t110 t119 true) else ((laws_eqEntryS.f kj16 t119 t109).bind fun t136 => (if t136 = true then (laws_FnExactApplyChanges.j1 kj16 l0 l1 t109 t110 t119 (t120 != t110)) else (laws_FnExactApplyChanges.j1 kj16 l0 l1 t109 t110 t119 true))))) = some r := H
                have A51 := Aside0.mk A510
                clear A510
                replace H := Option.bind_eq_some_iff.mp H
                obtain ⟨⟨t134, t135⟩, A520, H⟩ := H
                replace H : (if t134 < 0 then (laws_FnExactApplyChanges.j1 kj16 l0 l1 t109 t110 t119 true) else ((laws_eqEntryS.f kj16 t119 t109).bind fun t136 => (if t136 = true then (laws_FnExactApplyChanges.j1 kj16 l0 l1 t109 t110 t119 (t120 != t110)) else (laws_FnExactApplyChanges.j1 kj16 l0 l1 t109 t110 t119 true)))) = some r := H
                have A52 := Aside0.mk A520
                clear A520
                have HC53 := Aside0.mk H
                clear H
                go_upto_region 21 with (first | ((with_reducible refine gate_callee (f := 30) rfl ?_); refine goesL_ (some 66) rfl rfl Try.func30 (by kernel_rfl) rfl #[.slice Ao25 t113.length co25, .int .i64 1] rfl (by (try simp only [List.map_toArray, List.map_cons, List.map_nil]); first | done | rfl | (simp only [List.length_drop, List.length_take]; rfl)) ?_; (with_reducible refine (laws_markEntryS.calls kj16 (fun k_ => some k_ = (.slice Ao25 t113.length co25 : Value).ownBlock) (.slice Ao25 t113.length co25) t113 1 t132 t133 w _ ?side1 ?side2 A51.out).mono ?_); (case side1 => repeat (first | (with_reducible first | exact HB.out | apply below_alloc | apply pw_below_drewN | apply below_drew1) | exact HB.out)); (case side2 => exact Kd.R_tight rfl HO_8.out); rintro e w54 ⟨rfl, hy0, hb, hkp⟩; refine ⟨_, rfl, ?_⟩; have n0_ := Aside0.mk (Kd.R_mono (ok' := fun k_ => some k_ ≠ (.slice Ao25 t113.length co25 : Value).ownBlock ∧ some k_ ≠ (v121 : Value).ownBlock ∧ some k_ ≠ (.slice Ao41 t124.length co41 : Value).ownBlock) (Kd.R_keptB (HO_6.out) hkp (fun k_ hk_ hs_ => (hk_.1.1) hs_)) (fun k_ hk_ => ⟨hk_.1.1.1, hk_.1.1.2, hk_.1.2⟩)); have n1_ := Aside0.mk (Kd.R_reok rfl hy0 (fun k_ e_ => HO_8.out.1 k_ e_)); have n2_ := Aside0.mk (Kd.R_mono (ok' := fun k_ => some k_ ≠ (.slice Ao48 t128.length co48 : Value).ownBlock) (Kd.R_keptB ((Kd.R_apart' HO_9.out (Kd.R_typed HO_8.out) (by decide))) hkp (fun k_ hk_ hs_ => (hk_.2) hs_)) (fun k_ hk_ => hk_.1.1.2)); have n3_ := Aside0.mk (Kd.R_mono (ok' := fun k_ => some k_ ≠ (v111 : Value).ownBlock ∧ some k_ ≠ (.slice Ao25 t113.length co25 : Value).ownBlock ∧ some k_ ≠ (.slice Ao41 t124.length co41 : Value).ownBlock) (Kd.R_keptB (HO_10.out) hkp (fun k_ hk_ hs_ => (hk_.1.2) hs_)) (fun k_ hk_ => ⟨hk_.1.1.1, hk_.1.1.2, hk_.1.2⟩)); have n4_ := Aside0.mk (Kd.R_mono (ok' := fun k_ => some k_ ≠ (v111 : Value).ownBlock ∧ some k_ ≠ (.slice Ao25 t113.length co25 : Value).ownBlock ∧ some k_ ≠ (v121 : Value).ownBlock) (Kd.R_keptB (HO126.out) hkp (fun k_ hk_ hs_ => (hk_.1.2) hs_)) (fun k_ hk_ => ⟨hk_.1.1.1.2, hk_.1.1.2, hk_.1.2⟩)); have n5_ := Aside0.mk (Kd.R_mono (ok' := fun k_ => some k_ ≠ (.slice Ao26 t116.length co26 : Value).ownBlock) (Kd.R_keptB ((Kd.R_apart' HO130.out (Kd.R_typed HO_8.out) (by decide))) hkp (fun k_ hk_ hs_ => (hk_.2) hs_)) (fun k_ hk_ => hk_.1.1.2)); have n6_ := Aside0.mk (hb); clear HO_6; clear HO_8; clear HO_9; clear HO_10; clear HO126; clear HO130; clear HB; have HO_6 := n0_; have HO_8 := n1_; have HO_9 := n2_; have HO_10 := n3_; have HO126 := n4_; have HO130 := n5_; have HB := n6_; clear n0_ n1_ n2_ n3_ n4_ n5_ n6_; (try clear hb); (try clear hkp); (try clear hy0)) | ((with_reducible refine gate_callee (f := 31) rfl ?_); refine goesL_ (some 69) rfl rfl Try.func31 (by kernel_rfl) rfl #[.slice Ao26 t116.length co26, .int .i64 t132] rfl (by (try simp only [List.map_toArray, List.map_cons, List.map_nil]); first | done | rfl | (simp only [List.length_drop, List.length_take]; rfl)) ?_; (with_reducible refine (laws_markChangeS.calls kj16 (fun k_ => some k_ = (.slice Ao26 t116.length co26 : Value).ownBlock) (.slice Ao26 t116.length co26) t116 t132 t134 t135 w _ ?side1 ?side2 A52.out).mono ?_); (case side1 => repeat (first | (with_reducible first | exact HB.out | apply below_alloc | apply pw_below_drewN | apply below_drew1) | exact HB.out)); (case side2 => exact Kd.R_tight rfl HO_9.out); rintro e w55 ⟨rfl, hy0, hb, hkp⟩; refine ⟨_, rfl, ?_⟩; have n0_ := Aside0.mk (Kd.R_mono (ok' := fun k_ => some k_ ≠ (.slice Ao25 t113.length co25 : Value).ownBlock ∧ some k_ ≠ (v121 : Value).ownBlock ∧ some k_ ≠ (.slice Ao41 t124.length co41 : Value).ownBlock) (Kd.R_keptB ((Kd.R_apart' HO_6.out (Kd.R_typed HO_9.out) (by decide))) hkp (fun k_ hk_ hs_ => (hk_.2) hs_)) (fun k_ hk_ => ⟨hk_.1.1.1, hk_.1.1.2.1, hk_.1.1.2.2⟩)); have n1_ := Aside0.mk (Kd.R_mono (ok' := fun k_ => some k_ ≠ (v111 : Value).ownBlock ∧ some k_ ≠ (v121 : Value).ownBlock ∧ some k_ ≠ (.slice Ao41 t124.length co41 : Value).ownBlock) (Kd.R_keptB ((Kd.R_apart' HO_8.out (Kd.R_typed HO_9.out) (by decide))) hkp (fun k_ hk_ hs_ => (hk_.2) hs_)) (fun k_ hk_ => ⟨hk_.1.1.1.1, hk_.1.1.1.2, hk_.1.1.2⟩)); have n2_ := Aside0.mk (Kd.R_reok rfl hy0 (fun k_ e_ => HO_9.out.1 k_ e_)); have n3_ := Aside0.mk (Kd.R_mono (ok' := fun k_ => some k_ ≠ (v111 : Value).ownBlock ∧ some k_ ≠ (.slice Ao25 t113.length co25 : Value).ownBlock ∧ some k_ ≠ (.slice Ao41 t124.length co41 : Value).ownBlock) (Kd.R_keptB ((Kd.R_apart' HO_10.out (Kd.R_typed HO_9.out) (by decide))) hkp (fun k_ hk_ hs_ => (hk_.2) hs_)) (fun k_ hk_ => ⟨hk_.1.1.1, hk_.1.1.2.1, hk_.1.1.2.2⟩)); have n4_ := Aside0.mk (Kd.R_mono (ok' := fun k_ => some k_ ≠ (v111 : Value).ownBlock ∧ some k_ ≠ (.slice Ao25 t113.length co25 : Value).ownBlock ∧ some k_ ≠ (v121 : Value).ownBlock) (Kd.R_keptB ((Kd.R_apart' HO126.out (Kd.R_typed HO_9.out) (by decide))) hkp (fun k_ hk_ hs_ => (hk_.2) hs_)) (fun k_ hk_ => ⟨hk_.1.1.1, hk_.1.1.2.1, hk_.1.1.2.2⟩)); have n5_ := Aside0.mk (Kd.R_mono (ok' := fun k_ => some k_ ≠ (.slice Ao26 t116.length co26 : Value).ownBlock) (Kd.R_keptB (HO130.out) hkp (fun k_ hk_ hs_ => (hk_) hs_)) (fun k_ hk_ => hk_.1)); have n6_ := Aside0.mk (hb); clear HO_6; clear HO_8; clear HO_9; clear HO_10; clear HO126; clear HO130; clear HB; have HO_6 := n0_; have HO_8 := n1_; have HO_9 := n2_; have HO_10 := n3_; have HO126 := n4_; have HO130 := n5_; have HB := n6_; clear n0_ n1_ n2_ n3_ n4_ n5_ n6_; (try clear hb); (try clear hkp); (try clear hy0)))
                (try simp only [Act.put, List.setIfInBounds_toArray, List.set_cons_zero, List.set_cons_succ])
                go_cut [82] (fun v82 wc => ∃ (kq : Nat) (x82_52 : Bool), v82 = .bool x82_52 ∧ Aside0 (laws_FnExactApplyChanges.j1 kq l0 l1 t109 t110 t119 x82_52 = some r) ∧ Aside0 (kq ≤ kj16) ∧ Aside0 (Kd.R k71 71 wc w.heap.size (fun k_ => some k_ ≠ (v121 : Value).ownBlock) v111 t109) ∧ Aside0 (Kd.R k71 71 wc w.heap.size (fun k_ => some k_ ≠ (v111 : Value).ownBlock) v121 t119) ∧ Aside0 (Below w.heap.size w wc))
                case first =>
                  have H := HC53.out
                  clear HC53
                  by_cases c56 : t134 < 0
                  · rw [if_pos c56] at H
                    have c56b0 : decide (t134 < 0) = true := decide_eq_true c56
                    clear c56
                    (first | rw [c56b0] | (simp only [i64_w, i32_w]; rw [c56b0]) | (simp only [c56b2, Bool.not_true, Bool.not_false]) | (simp only [c56b1, Bool.not_true, Bool.not_false]) | (simp only [c56b0, Bool.not_true, Bool.not_false]) | skip)
                    have H' := Aside0.mk H
                    clear H
                    go_wp2
                    go_meet
                    case rel => exact ⟨_, (true), (by first | rfl | (simp; done) | (simp [*]; done)), H', ⟨by have := HJ16.out; first | omega | exact Nat.le_refl _⟩, ⟨by (with_reducible repeat (first | apply Kd.R_alloc | apply Kd.R_drewN | apply Kd.R_drew)); exact Kd.R_mono HO_6.out (fun _ hk => hk.2.1)⟩, ⟨by (with_reducible repeat (first | apply Kd.R_alloc | apply Kd.R_drewN | apply Kd.R_drew)); exact Kd.R_mono HO_10.out (fun _ hk => hk.1)⟩, ⟨by repeat (first | (with_reducible first | exact HB.out | apply below_alloc | apply pw_below_drewN | apply below_drew1) | exact HB.out)⟩⟩
                  · rw [if_neg c56] at H
                    have c56b0 : decide (t134 < 0) = false := decide_eq_false c56
                    clear c56
                    (first | rw [c56b0] | (simp only [i64_w, i32_w]; rw [c56b0]) | (simp only [c56b2, Bool.not_true, Bool.not_false]) | (simp only [c56b1, Bool.not_true, Bool.not_false]) | (simp only [c56b0, Bool.not_true, Bool.not_false]) | skip)
                    replace H := Option.bind_eq_some_iff.mp H
                    obtain ⟨t136, A570, H⟩ := H
                    replace H : (if t136 = true then (laws_FnExactApplyChanges.j1 kj16 l0 l1 t109 t110 t119 (t120 != t110)) else (laws_FnExactApplyChanges.j1 kj16 l0 l1 t109 t110 t119 true)) = some r := H
                    have A57 := Aside0.mk A570
                    clear A570
                    by_cases c58 : t136 = true
                    · subst c58
                      have H1 : (laws_FnExactApplyChanges.j1 kj16 l0 l1 t109 t110 t119 (t120 != t110)) = some r := by rw [if_pos rfl] at H; exact H
                      clear H
                      have H := H1
                      clear H1
                      have H' := Aside0.mk H
                      clear H
                      obtain ⟨Ao59, co59, eo59⟩ := Kd.R_slice HO_10.out
                      subst eo59
                      obtain ⟨Ao60, co60, eo60⟩ := Kd.R_slice HO_6.out
                      subst eo60
                      go_wp2_with (first | (go_at_call 17; (with_reducible refine (laws_eqEntryS.calls kj16 _ _ t119 _ _ t109 true _ ?side1 ?side2 ?side3 ?side4 A57.out).mono ?_); (case side1 => repeat (first | exact (Kd.R_reads' HO_10.out).2.2 | (with_reducible refine Kd.C_alloc ?_ _) | (with_reducible refine Kd.C_drewN ?_ _) | (with_reducible refine Kd.C_drew ?_))); (case side2 => exact (Kd.R_reads' HO_10.out).2.1); (case side3 => repeat (first | exact (Kd.R_reads' HO_6.out).2.2 | (with_reducible refine Kd.C_alloc ?_ _) | (with_reducible refine Kd.C_drewN ?_ _) | (with_reducible refine Kd.C_drew ?_))); (case side4 => exact (Kd.R_reads' HO_6.out).2.1); rintro e w61 ⟨rfl, hb⟩; have n0_ := Aside0.mk (Kd.R_below (by (with_reducible repeat (first | apply Kd.R_alloc | apply Kd.R_drewN | apply Kd.R_drew)); exact HO_6.out) hb); have n1_ := Aside0.mk (Kd.R_below (by (with_reducible repeat (first | apply Kd.R_alloc | apply Kd.R_drewN | apply Kd.R_drew)); exact HO_8.out) hb); have n2_ := Aside0.mk (Kd.R_below (by (with_reducible repeat (first | apply Kd.R_alloc | apply Kd.R_drewN | apply Kd.R_drew)); exact HO_9.out) hb); have n3_ := Aside0.mk (Kd.R_below (by (with_reducible repeat (first | apply Kd.R_alloc | apply Kd.R_drewN | apply Kd.R_drew)); exact HO_10.out) hb); have n4_ := Aside0.mk (Kd.R_below (by (with_reducible repeat (first | apply Kd.R_alloc | apply Kd.R_drewN | apply Kd.R_drew)); exact HO126.out) hb); have n5_ := Aside0.mk (Kd.R_below (by (with_reducible repeat (first | apply Kd.R_alloc | apply Kd.R_drewN | apply Kd.R_drew)); exact HO130.out) hb); have n6_ := Aside0.mk (below_step (by repeat (first | (with_reducible first | exact HB.out | apply below_alloc | apply pw_below_drewN | apply below_drew1) | exact HB.out)) hb); clear HO_6; clear HO_8; clear HO_9; clear HO_10; clear HO126; clear HO130; clear HB; have HO_6 := n0_; have HO_8 := n1_; have HO_9 := n2_; have HO_10 := n3_; have HO126 := n4_; have HO130 := n5_; have HB := n6_; clear n0_ n1_ n2_ n3_ n4_ n5_ n6_; (try clear hb); (try clear hb2); (try clear hk); (try clear hi)))
                      go_meet
                      case rel => exact ⟨_, ((t120 != t110)), (by first | rfl | (simp; done) | (simp [*]; done)), H', ⟨by have := HJ16.out; first | omega | exact Nat.le_refl _⟩, ⟨by (with_reducible repeat (first | apply Kd.R_alloc | apply Kd.R_drewN | apply Kd.R_drew)); exact Kd.R_mono HO_6.out (fun _ hk => hk.2.1)⟩, ⟨by (with_reducible repeat (first | apply Kd.R_alloc | apply Kd.R_drewN | apply Kd.R_drew)); exact Kd.R_mono HO_10.out (fun _ hk => hk.1)⟩, ⟨by repeat (first | (with_reducible first | exact HB.out | apply below_alloc | apply pw_below_drewN | apply below_drew1) | exact HB.out)⟩⟩
                    · replace c58 := Bool.eq_false_iff.mpr c58
                      subst c58
                      have H1 : (laws_FnExactApplyChanges.j1 kj16 l0 l1 t109 t110 t119 true) = some r := by rw [if_neg (show ¬ (false = true) by decide)] at H; exact H
                      clear H
                      have H := H1
                      clear H1
                      have H' := Aside0.mk H
                      clear H
                      obtain ⟨Ao62, co62, eo62⟩ := Kd.R_slice HO_10.out
                      subst eo62
                      obtain ⟨Ao63, co63, eo63⟩ := Kd.R_slice HO_6.out
                      subst eo63
                      go_wp2_with (first | (go_at_call 17; (with_reducible refine (laws_eqEntryS.calls kj16 _ _ t119 _ _ t109 false _ ?side1 ?side2 ?side3 ?side4 A57.out).mono ?_); (case side1 => repeat (first | exact (Kd.R_reads' HO_10.out).2.2 | (with_reducible refine Kd.C_alloc ?_ _) | (with_reducible refine Kd.C_drewN ?_ _) | (with_reducible refine Kd.C_drew ?_))); (case side2 => exact (Kd.R_reads' HO_10.out).2.1); (case side3 => repeat (first | exact (Kd.R_reads' HO_6.out).2.2 | (with_reducible refine Kd.C_alloc ?_ _) | (with_reducible refine Kd.C_drewN ?_ _) | (with_reducible refine Kd.C_drew ?_))); (case side4 => exact (Kd.R_reads' HO_6.out).2.1); rintro e w64 ⟨rfl, hb⟩; have n0_ := Aside0.mk (Kd.R_below (by (with_reducible repeat (first | apply Kd.R_alloc | apply Kd.R_drewN | apply Kd.R_drew)); exact HO_6.out) hb); have n1_ := Aside0.mk (Kd.R_below (by (with_reducible repeat (first | apply Kd.R_alloc | apply Kd.R_drewN | apply Kd.R_drew)); exact HO_8.out) hb); have n2_ := Aside0.mk (Kd.R_below (by (with_reducible repeat (first | apply Kd.R_alloc | apply Kd.R_drewN | apply Kd.R_drew)); exact HO_9.out) hb); have n3_ := Aside0.mk (Kd.R_below (by (with_reducible repeat (first | apply Kd.R_alloc | apply Kd.R_drewN | apply Kd.R_drew)); exact HO_10.out) hb); have n4_ := Aside0.mk (Kd.R_below (by (with_reducible repeat (first | apply Kd.R_alloc | apply Kd.R_drewN | apply Kd.R_drew)); exact HO126.out) hb); have n5_ := Aside0.mk (Kd.R_below (by (with_reducible repeat (first | apply Kd.R_alloc | apply Kd.R_drewN | apply Kd.R_drew)); exact HO130.out) hb); have n6_ := Aside0.mk (below_step (by repeat (first | (with_reducible first | exact HB.out | apply below_alloc | apply pw_below_drewN | apply below_drew1) | exact HB.out)) hb); clear HO_6; clear HO_8; clear HO_9; clear HO_10; clear HO126; clear HO130; clear HB; have HO_6 := n0_; have HO_8 := n1_; have HO_9 := n2_; have HO_10 := n3_; have HO126 := n4_; have HO130 := n5_; have HB := n6_; clear n0_ n1_ n2_ n3_ n4_ n5_ n6_; (try clear hb); (try clear hb2); (try clear hk); (try clear hi)))
                      go_meet
                      case rel => exact ⟨_, (true), (by first | rfl | (simp; done) | (simp [*]; done)), H', ⟨by have := HJ16.out; first | omega | exact Nat.le_refl _⟩, ⟨by (with_reducible repeat (first | apply Kd.R_alloc | apply Kd.R_drewN | apply Kd.R_drew)); exact Kd.R_mono HO_6.out (fun _ hk => hk.2.1)⟩, ⟨by (with_reducible repeat (first | apply Kd.R_alloc | apply Kd.R_drewN | apply Kd.R_drew)); exact Kd.R_mono HO_10.out (fun _ hk => hk.1)⟩, ⟨by repeat (first | (with_reducible first | exact HB.out | apply below_alloc | apply pw_below_drewN | apply below_drew1) | exact HB.out)⟩⟩
                case rest =>
                  clear HC53
                  try clear c1
                  try clear c2
                  try clear p2
                  try clear c3
                  try clear c4
                  try clear c5
                  try clear c6
                  try clear c6b0
                  try clear c6b1
                  try clear c6b2
                  try clear c10
                  try clear c10b0
                  try clear c10b1
                  try clear c10b2
                  try clear c12
                  try clear c13
                  try clear c15
                  try clear c17
                  try clear c29
                  try clear c30
                  try clear c31
                  try clear c36
                  try clear c43
                  try clear c46
                  try clear c47
                  try clear c48
                  try clear c49
                  try clear c50
                  try clear c56
                  try clear c56b0
                  try clear c56b1
                  try clear c56b2
                  try clear c58
                  try clear p2
                  obtain ⟨kq, x82_52, rfl, HA, HJ52, HO_6, HO_10, HB⟩ := hcut
                  cases kq with
                  | zero => exact absurd HA.out (by simp [laws_FnExactApplyChanges.j1])
                  | succ kj52 =>
                    have H := HA.out
                    clear HA
                    simp only [laws_FnExactApplyChanges.j1] at H
                    by_cases c65 : x82_52 = true
                    · subst c65
                      have H1 : (some false) = some r := by rw [if_pos rfl] at H; exact H
                      clear H
                      have H := H1
                      clear H1
                      obtain rfl := Option.some.inj H
                      go_wp2
                      go_ret
                      exact ⟨by first | rfl | (simp [errW_none, errW_some] <;> rfl) | (simp [*, errW_none, errW_some] <;> rfl), by repeat (first | (with_reducible first | exact HB.out | apply below_alloc | apply pw_below_drewN | apply below_drew1) | exact HB.out)⟩
                    · replace c65 := Bool.eq_false_iff.mpr c65
                      subst c65
                      have H1 : ((laws_markEntryS.f kj52 t119 1).bind fun bt137 => ((laws_heldEntryS.f kj52 bt137.2 1).bind fun t139 => (if t139 < 0 then (some false) else (if t139 = bt137.1 then ((laws_toEntryS.f kj52 l0).bind fun t140 => ((laws_toChangeS.f kj52 l1).bind fun t143 => ((impl_ApplyChanges.f kj52 t140 t143).bind fun bt146 => ((laws_eqEntryS.f kj52 bt146.1 t109).bind fun t150 => (if t150 = true then (laws_FnExactApplyChanges.j2 kj52 bt137.2 bt137.1 (bt146.2 != t110)) else (laws_FnExactApplyChanges.j2 kj52 bt137.2 bt137.1 true)))))) else (some false))))) = some r := by rw [if_neg (show ¬ (false = true) by decide)] at H; exact H
                      clear H
                      have H := H1
                      clear H1
                      replace H := Option.bind_eq_some_iff.mp H
                      obtain ⟨⟨t137, t138⟩, A660, H⟩ := H
                      replace H : ((laws_heldEntryS.f kj52 t138 1).bind fun t139 => (if t139 < 0 then (some false) else (if t139 = t137 then ((laws_toEntryS.f kj52 l0).bind fun t140 => ((laws_toChangeS.f kj52 l1).bind fun t143 => ((impl_ApplyChanges.f kj52 t140 t143).bind fun bt146 => ((laws_eqEntryS.f kj52 bt146.1 t109).bind fun t150 => (if t150 = true then (laws_FnExactApplyChanges.j2 kj52 t138 t137 (bt146.2 != t110)) else (laws_FnExactApplyChanges.j2 kj52 t138 t137 true)))))) else (some false)))) = some r := H
                      have A66 := Aside0.mk A660
                      clear A660
                      replace H := Option.bind_eq_some_iff.mp H
                      obtain ⟨t139, A670, H⟩ := H
                      replace H : (if t139 < 0 then (some false) else (if t139 = t137 then ((laws_toEntryS.f kj52 l0).bind fun t140 => ((laws_toChangeS.f kj52 l1).bind fun t143 => ((impl_ApplyChanges.f kj52 t140 t143).bind fun bt146 => ((laws_eqEntryS.f kj52 bt146.1 t109).bind fun t150 => (if t150 = true then (laws_FnExactApplyChanges.j2 kj52 t138 t137 (bt146.2 != t110)) else (laws_FnExactApplyChanges.j2 kj52 t138 t137 true)))))) else (some false))) = some r := H
                      have A67 := Aside0.mk A670
                      clear A670
                      have HC68 := Aside0.mk H
                      clear H
                      obtain ⟨Ao69, co69, eo69⟩ := Kd.R_slice HO_10.out
                      subst eo69
                      go_upto_if 90 with (first | ((with_reducible refine gate_callee (f := 30) rfl ?_); refine goesL_ (some 85) rfl rfl Try.func30 (by kernel_rfl) rfl #[.slice Ao69 t119.length co69, .int .i64 1] rfl (by (try simp only [List.map_toArray, List.map_cons, List.map_nil]); first | done | rfl | (simp only [List.length_drop, List.length_take]; rfl)) ?_; (with_reducible refine (laws_markEntryS.calls kj52 (fun k_ => some k_ = (.slice Ao69 t119.length co69 : Value).ownBlock) (.slice Ao69 t119.length co69) t119 1 t137 t138 w _ ?side1 ?side2 A66.out).mono ?_); (case side1 => repeat (first | (with_reducible first | exact HB.out | apply below_alloc | apply pw_below_drewN | apply below_drew1) | exact HB.out)); (case side2 => exact Kd.R_tight rfl HO_10.out); rintro e w70 ⟨rfl, hy0, hb, hkp⟩; refine ⟨_, rfl, ?_⟩; have n0_ := Aside0.mk (Kd.R_mono (ok' := fun k_ => some k_ ≠ (.slice Ao69 t119.length co69 : Value).ownBlock) (Kd.R_keptB (HO_6.out) hkp (fun k_ hk_ hs_ => (hk_) hs_)) (fun k_ hk_ => hk_.1)); have n1_ := Aside0.mk (Kd.R_reok rfl hy0 (fun k_ e_ => HO_10.out.1 k_ e_)); have n2_ := Aside0.mk (hb); clear HO_6; clear HO_10; clear HB; have HO_6 := n0_; have HO_10 := n1_; have HB := n2_; clear n0_ n1_ n2_; (try clear hb); (try clear hkp); (try clear hy0)) | ((with_reducible refine gate_callee (f := 50) rfl ?_); refine goesL_ (some 88) rfl rfl Try.func50 (by kernel_rfl) rfl #[.slice Ao69 t138.length co69, .int .i64 1] rfl (by (try simp only [List.map_toArray, List.map_cons, List.map_nil]); first | done | (rw [show t138.length = t119.length from (Kd.R_reads' HO_10.out).1.symm] <;> rfl) | rfl | (simp only [List.length_drop, List.length_take]; rfl)) ?_; (with_reducible refine (laws_heldEntryS.calls kj52 _ _ t138 1 t139 _ ?side1 ?side2 A67.out).mono ?_); (case side1 => repeat (first | exact (Kd.R_reads' HO_10.out).2.2 | (with_reducible refine Kd.C_alloc ?_ _) | (with_reducible refine Kd.C_drewN ?_ _) | (with_reducible refine Kd.C_drew ?_))); (case side2 => rw [show t138.length = t119.length from (Kd.R_reads' HO_10.out).1.symm]; exact (Kd.R_reads' HO_10.out).2.1); rintro e w71 ⟨rfl, hb⟩; refine ⟨_, rfl, ?_⟩; have n0_ := Aside0.mk (Kd.R_below (by (with_reducible repeat (first | apply Kd.R_alloc | apply Kd.R_drewN | apply Kd.R_drew)); exact HO_6.out) hb); have n1_ := Aside0.mk (Kd.R_below (by (with_reducible repeat (first | apply Kd.R_alloc | apply Kd.R_drewN | apply Kd.R_drew)); exact HO_10.out) hb); have n2_ := Aside0.mk (below_step (by repeat (first | (with_reducible first | exact HB.out | apply below_alloc | apply pw_below_drewN | apply below_drew1) | exact HB.out)) hb); clear HO_6; clear HO_10; clear HB; have HO_6 := n0_; have HO_10 := n1_; have HB := n2_; clear n0_ n1_ n2_; (try clear hb); (try clear hb2); (try clear hk); (try clear hi)))
                      (try simp only [Act.put, List.setIfInBounds_toArray, List.set_cons_zero, List.set_cons_succ])
                      have H := HC68.out
                      clear HC68
                      by_cases c72 : t139 < 0
                      · rw [if_pos c72] at H
                        have c72b0 : decide (t139 < 0) = true := decide_eq_true c72
                        clear c72
                        (first | rw [c72b0] | (simp only [i64_w, i32_w]; rw [c72b0]) | (simp only [c72b2, Bool.not_true, Bool.not_false]) | (simp only [c72b1, Bool.not_true, Bool.not_false]) | (simp only [c72b0, Bool.not_true, Bool.not_false]) | skip)
                        obtain rfl := Option.some.inj H
                        go_wp2
                        go_ret
                        exact ⟨by first | rfl | (simp [errW_none, errW_some] <;> rfl) | (simp [*, errW_none, errW_some] <;> rfl), by repeat (first | (with_reducible first | exact HB.out | apply below_alloc | apply pw_below_drewN | apply below_drew1) | exact HB.out)⟩
                      · rw [if_neg c72] at H
                        have c72b0 : decide (t139 < 0) = false := decide_eq_false c72
                        clear c72
                        (first | rw [c72b0] | (simp only [i64_w, i32_w]; rw [c72b0]) | (simp only [c72b2, Bool.not_true, Bool.not_false]) | (simp only [c72b1, Bool.not_true, Bool.not_false]) | (simp only [c72b0, Bool.not_true, Bool.not_false]) | skip)
                        by_cases c73 : t139 = t137
                        · rw [if_pos c73] at H
                          have c73b0 : (t139 == t137) = true := beq_iff_eq.mpr c73
                          have c73b1 : (t139 != t137) = false := bne_eq_false_iff_eq.mpr c73
                          clear c73
                          replace H := Option.bind_eq_some_iff.mp H
                          obtain ⟨t140, A740, H⟩ := H
                          replace H : ((laws_toChangeS.f kj52 l1).bind fun t143 => ((impl_ApplyChanges.f kj52 t140 t143).bind fun bt146 => ((laws_eqEntryS.f kj52 bt146.1 t109).bind fun t150 => (if t150 = true then (laws_FnExactApplyChanges.j2 kj52 t138 t137 (bt146.2 != t110)) else (laws_FnExactApplyChanges.j2 kj52 t138 t137 true))))) = some r := H
                          have A74 := Aside0.mk A740
                          clear A740
                          replace H := Option.bind_eq_some_iff.mp H
                          obtain ⟨t143, A750, H⟩ := H
                          replace H : ((impl_ApplyChanges.f kj52 t140 t143).bind fun bt146 => ((laws_eqEntryS.f kj52 bt146.1 t109).bind fun t150 => (if t150 = true then (laws_FnExactApplyChanges.j2 kj52 t138 t137 (bt146.2 != t110)) else (laws_FnExactApplyChanges.j2 kj52 t138 t137 true)))) = some r := H
                          have A75 := Aside0.mk A750
                          clear A750
                          replace H := Option.bind_eq_some_iff.mp H
                          obtain ⟨⟨t146, t147⟩, A760, H⟩ := H
                          replace H : ((laws_eqEntryS.f kj52 t146 t109).bind fun t150 => (if t150 = true then (laws_FnExactApplyChanges.j2 kj52 t138 t137 (t147 != t110)) else (laws_FnExactApplyChanges.j2 kj52 t138 t137 true))) = some r := H
                          have A76 := Aside0.mk A760
                          clear A760
                          have HC77 := Aside0.mk H
                          clear H
                          go_upto_region 32 with (first | ((with_reducible refine gate_callee (f := 15) rfl ?_); refine goesL_ (some 96) rfl rfl Try.func15 (by kernel_rfl) rfl #[.slice A0 l0.length c0] rfl (by (try simp only [List.map_toArray, List.map_cons, List.map_nil]); first | done | rfl | (simp only [List.length_drop, List.length_take]; rfl)) ?_; (with_reducible refine (laws_toEntryS.calls kj52 _ _ l0 t140 _ ?side1 ?side2 A74.out).mono ?_); (case side1 => repeat (first | exact (Kd.C_below HR0.out (by repeat (first | (with_reducible first | exact HB.out | apply below_alloc | apply pw_below_drewN | apply below_drew1) | exact HB.out))) | (with_reducible refine Kd.C_alloc ?_ _) | (with_reducible refine Kd.C_drewN ?_ _) | (with_reducible refine Kd.C_drew ?_))); (case side2 => exact HC0.out); rintro e w78 ⟨v141, rfl, ho0, hb⟩; refine ⟨_, rfl, ?_⟩; have n0_ := Aside0.mk (Kd.R_elder' (by (with_reducible repeat (first | apply Kd.R_alloc | apply Kd.R_drewN | apply Kd.R_drew)); exact HO_6.out) (Kd.R_base ho0) hb); have n1_ := Aside0.mk (Kd.R_elder' (by (with_reducible repeat (first | apply Kd.R_alloc | apply Kd.R_drewN | apply Kd.R_drew)); exact HO_10.out) (Kd.R_base ho0) hb); have n2_ := Aside0.mk (Kd.R_lower (Kd.R_new' (Kd.R_new' ho0 (Kd.R_lt (by (with_reducible repeat (first | apply Kd.R_alloc | apply Kd.R_drewN | apply Kd.R_drew)); exact HO_6.out))) (Kd.R_lt (by (with_reducible repeat (first | apply Kd.R_alloc | apply Kd.R_drewN | apply Kd.R_drew)); exact HO_10.out))) (below_size (by repeat (first | (with_reducible first | exact HB.out | apply below_alloc | apply pw_below_drewN | apply below_drew1) | exact HB.out)))); have n3_ := Aside0.mk (below_step (by repeat (first | (with_reducible first | exact HB.out | apply below_alloc | apply pw_below_drewN | apply below_drew1) | exact HB.out)) hb); clear HO_6; clear HO_10; clear HB; have HO_6 := n0_; have HO_10 := n1_; have HO142 := n2_; have HB := n3_; clear n0_ n1_ n2_ n3_; (try clear hb); (try clear hb2); (try clear hk); (try clear hi); (try clear ho0)) | ((with_reducible refine gate_callee (f := 48) rfl ?_); refine goesL_ (some 98) rfl rfl Try.func48 (by kernel_rfl) rfl #[.slice A1 l1.length c1] rfl (by (try simp only [List.map_toArray, List.map_cons, List.map_nil]); first | done | rfl | (simp only [List.length_drop, List.length_take]; rfl)) ?_; (with_reducible refine (laws_toChangeS.calls kj52 _ _ l1 t143 _ ?side1 ?side2 A75.out).mono ?_); (case side1 => repeat (first | exact (Kd.C_below HR1.out HB.out) | (with_reducible refine Kd.C_alloc ?_ _) | (with_reducible refine Kd.C_drewN ?_ _) | (with_reducible refine Kd.C_drew ?_))); (case side2 => exact HC1.out); rintro e w79 ⟨v144, rfl, ho0, hb⟩; refine ⟨_, rfl, ?_⟩; have n0_ := Aside0.mk (Kd.R_below (by (with_reducible repeat (first | apply Kd.R_alloc | apply Kd.R_drewN | apply Kd.R_drew)); exact HO_6.out) hb); have n1_ := Aside0.mk (Kd.R_below (by (with_reducible repeat (first | apply Kd.R_alloc | apply Kd.R_drewN | apply Kd.R_drew)); exact HO_10.out) hb); have n2_ := Aside0.mk (Kd.R_below (by (with_reducible repeat (first | apply Kd.R_alloc | apply Kd.R_drewN | apply Kd.R_drew)); exact HO142.out) hb); have n3_ := Aside0.mk (Kd.R_lower ho0 (below_size (by repeat (first | (with_reducible first | exact HB.out | apply below_alloc | apply pw_below_drewN | apply below_drew1) | exact HB.out)))); have n4_ := Aside0.mk (below_step (by repeat (first | (with_reducible first | exact HB.out | apply below_alloc | apply pw_below_drewN | apply below_drew1) | exact HB.out)) hb); clear HO_6; clear HO_10; clear HO142; clear HB; have HO_6 := n0_; have HO_10 := n1_; have HO142 := n2_; have HO145 := n3_; have HB := n4_; clear n0_ n1_ n2_ n3_ n4_; (try clear hb); (try clear hb2); (try clear hk); (try clear hi); (try clear ho0); obtain ⟨Ao80, co80, eo80⟩ := Kd.R_slice HO142.out; subst eo80; obtain ⟨Ao81, co81, eo81⟩ := Kd.R_slice HO145.out; subst eo81) | ((with_reducible refine gate_callee (f := 49) rfl ?_); refine goesL_ (some 99) rfl rfl Try.func49 (by kernel_rfl) rfl #[.slice Ao80 t140.length co80, .slice Ao81 t143.length co81] rfl (by (try simp only [List.map_toArray, List.map_cons, List.map_nil]); first | done | rfl | (simp only [List.length_drop, List.length_take]; rfl)) ?_; (with_reducible refine (impl_ApplyChanges.calls kj52 _ _ t140 _ _ t143 t146 t147 _ ?side1 ?side2 ?side3 ?side4 A76.out).mono ?_); (case side1 => repeat (first | exact (Kd.R_reads' HO142.out).2.2 | (with_reducible refine Kd.C_alloc ?_ _) | (with_reducible refine Kd.C_drewN ?_ _) | (with_reducible refine Kd.C_drew ?_))); (case side2 => exact (Kd.R_reads' HO142.out).2.1); (case side3 => repeat (first | exact (Kd.R_reads' HO145.out).2.2 | (with_reducible refine Kd.C_alloc ?_ _) | (with_reducible refine Kd.C_drewN ?_ _) | (with_reducible refine Kd.C_drew ?_))); (case side4 => exact (Kd.R_reads' HO145.out).2.1); rintro e w82 ⟨v148, rfl, ho0, hb⟩; refine ⟨_, rfl, ?_⟩; have n0_ := Aside0.mk (Kd.R_elder' (by (with_reducible repeat (first | apply Kd.R_alloc | apply Kd.R_drewN | apply Kd.R_drew)); exact HO_6.out) (Kd.R_base ho0) hb); have n1_ := Aside0.mk (Kd.R_elder' (by (with_reducible repeat (first | apply Kd.R_alloc | apply Kd.R_drewN | apply Kd.R_drew)); exact HO_10.out) (Kd.R_base ho0) hb); have n2_ := Aside0.mk (Kd.R_elder' (by (with_reducible repeat (first | apply Kd.R_alloc | apply Kd.R_drewN | apply Kd.R_drew)); exact HO142.out) (Kd.R_base ho0) hb); have n3_ := Aside0.mk (Kd.R_below (by (with_reducible repeat (first | apply Kd.R_alloc | apply Kd.R_drewN | apply Kd.R_drew)); exact HO145.out) hb); have n4_ := Aside0.mk (Kd.R_lower (Kd.R_new' (Kd.R_new' (Kd.R_new' ho0 (Kd.R_lt (by (with_reducible repeat (first | apply Kd.R_alloc | apply Kd.R_drewN | apply Kd.R_drew)); exact HO_6.out))) (Kd.R_lt (by (with_reducible repeat (first | apply Kd.R_alloc | apply Kd.R_drewN | apply Kd.R_drew)); exact HO_10.out))) (Kd.R_lt (by (with_reducible repeat (first | apply Kd.R_alloc | apply Kd.R_drewN | apply Kd.R_drew)); exact HO142.out))) (below_size (by repeat (first | (with_reducible first | exact HB.out | apply below_alloc | apply pw_below_drewN | apply below_drew1) | exact HB.out)))); have n5_ := Aside0.mk (below_step (by repeat (first | (with_reducible first | exact HB.out | apply below_alloc | apply pw_below_drewN | apply below_drew1) | exact HB.out)) hb); clear HO_6; clear HO_10; clear HO142; clear HO145; clear HB; have HO_6 := n0_; have HO_10 := n1_; have HO142 := n2_; have HO145 := n3_; have HO149 := n4_; have HB := n5_; clear n0_ n1_ n2_ n3_ n4_ n5_; (try clear hb); (try clear hb2); (try clear hk); (try clear hi); (try clear ho0)))
                          (try simp only [Act.put, List.setIfInBounds_toArray, List.set_cons_zero, List.set_cons_succ])
                          go_cut [110] (fun v110 wc => ∃ (kq : Nat) (x110_76 : Bool), v110 = .bool x110_76 ∧ Aside0 (laws_FnExactApplyChanges.j2 kq t138 t137 x110_76 = some r) ∧ Aside0 (kq ≤ kj52) ∧ Aside0 (Kd.R k71 71 wc w.heap.size (fun _ => True) (.slice Ao69 t119.length co69) t138) ∧ Aside0 (Below w.heap.size w wc))
                          case first =>
                            have H := HC77.out
                            clear HC77
                            replace H := Option.bind_eq_some_iff.mp H
                            obtain ⟨t150, A830, H⟩ := H
                            replace H : (if t150 = true then (laws_FnExactApplyChanges.j2 kj52 t138 t137 (t147 != t110)) else (laws_FnExactApplyChanges.j2 kj52 t138 t137 true)) = some r := H
                            have A83 := Aside0.mk A830
                            clear A830
                            by_cases c84 : t150 = true
                            · subst c84
                              have H1 : (laws_FnExactApplyChanges.j2 kj52 t138 t137 (t147 != t110)) = some r := by rw [if_pos rfl] at H; exact H
                              clear H
                              have H := H1
                              clear H1
                              have H' := Aside0.mk H
                              clear H
                              obtain ⟨Ao85, co85, eo85⟩ := Kd.R_slice HO149.out
                              subst eo85
                              obtain ⟨Ao86, co86, eo86⟩ := Kd.R_slice HO_6.out
                              subst eo86
                              go_wp2_with (first | ((with_reducible refine gate_callee (f := 17) rfl ?_); refine goesL_ (some 104) rfl rfl Try.func17 (by kernel_rfl) rfl #[.slice Ao85 t146.length co85, .slice Ao86 t109.length co86] rfl (by (try simp only [List.map_toArray, List.map_cons, List.map_nil]); first | done | rfl | (simp only [List.length_drop, List.length_take]; rfl)) ?_; (with_reducible refine (laws_eqEntryS.calls kj52 _ _ t146 _ _ t109 true _ ?side1 ?side2 ?side3 ?side4 A83.out).mono ?_); (case side1 => repeat (first | exact (Kd.R_reads' HO149.out).2.2 | (with_reducible refine Kd.C_alloc ?_ _) | (with_reducible refine Kd.C_drewN ?_ _) | (with_reducible refine Kd.C_drew ?_))); (case side2 => exact (Kd.R_reads' HO149.out).2.1); (case side3 => repeat (first | exact (Kd.R_reads' HO_6.out).2.2 | (with_reducible refine Kd.C_alloc ?_ _) | (with_reducible refine Kd.C_drewN ?_ _) | (with_reducible refine Kd.C_drew ?_))); (case side4 => exact (Kd.R_reads' HO_6.out).2.1); rintro e w87 ⟨rfl, hb⟩; refine ⟨_, rfl, ?_⟩; have n0_ := Aside0.mk (Kd.R_below (by (with_reducible repeat (first | apply Kd.R_alloc | apply Kd.R_drewN | apply Kd.R_drew)); exact HO_6.out) hb); have n1_ := Aside0.mk (Kd.R_below (by (with_reducible repeat (first | apply Kd.R_alloc | apply Kd.R_drewN | apply Kd.R_drew)); exact HO_10.out) hb); have n2_ := Aside0.mk (Kd.R_below (by (with_reducible repeat (first | apply Kd.R_alloc | apply Kd.R_drewN | apply Kd.R_drew)); exact HO142.out) hb); have n3_ := Aside0.mk (Kd.R_below (by (with_reducible repeat (first | apply Kd.R_alloc | apply Kd.R_drewN | apply Kd.R_drew)); exact HO145.out) hb); have n4_ := Aside0.mk (Kd.R_below (by (with_reducible repeat (first | apply Kd.R_alloc | apply Kd.R_drewN | apply Kd.R_drew)); exact HO149.out) hb); have n5_ := Aside0.mk (below_step (by repeat (first | (with_reducible first | exact HB.out | apply below_alloc | apply pw_below_drewN | apply below_drew1) | exact HB.out)) hb); clear HO_6; clear HO_10; clear HO142; clear HO145; clear HO149; clear HB; have HO_6 := n0_; have HO_10 := n1_; have HO142 := n2_; have HO145 := n3_; have HO149 := n4_; have HB := n5_; clear n0_ n1_ n2_ n3_ n4_ n5_; (try clear hb); (try clear hb2); (try clear hk); (try clear hi)))
                              go_meet
                              case rel => exact ⟨_, ((t147 != t110)), (by first | rfl | (simp; done) | (simp [*]; done)), H', ⟨by have := HJ16.out; have := HJ52.out; first | omega | exact Nat.le_refl _⟩, ⟨by (with_reducible repeat (first | apply Kd.R_alloc | apply Kd.R_drewN | apply Kd.R_drew)); exact Kd.R_mono HO_10.out (fun _ hk => trivial)⟩, ⟨by repeat (first | (with_reducible first | exact HB.out | apply below_alloc | apply pw_below_drewN | apply below_drew1) | exact HB.out)⟩⟩
                            · replace c84 := Bool.eq_false_iff.mpr c84
                              subst c84
                              have H1 : (laws_FnExactApplyChanges.j2 kj52 t138 t137 true) = some r := by rw [if_neg (show ¬ (false = true) by decide)] at H; exact H
                              clear H
                              have H := H1
                              clear H1
                              have H' := Aside0.mk H
                              clear H
                              obtain ⟨Ao88, co88, eo88⟩ := Kd.R_slice HO149.out
                              subst eo88
                              obtain ⟨Ao89, co89, eo89⟩ := Kd.R_slice HO_6.out
                              subst eo89
                              go_wp2_with (first | ((with_reducible refine gate_callee (f := 17) rfl ?_); refine goesL_ (some 104) rfl rfl Try.func17 (by kernel_rfl) rfl #[.slice Ao88 t146.length co88, .slice Ao89 t109.length co89] rfl (by (try simp only [List.map_toArray, List.map_cons, List.map_nil]); first | done | rfl | (simp only [List.length_drop, List.length_take]; rfl)) ?_; (with_reducible refine (laws_eqEntryS.calls kj52 _ _ t146 _ _ t109 false _ ?side1 ?side2 ?side3 ?side4 A83.out).mono ?_); (case side1 => repeat (first | exact (Kd.R_reads' HO149.out).2.2 | (with_reducible refine Kd.C_alloc ?_ _) | (with_reducible refine Kd.C_drewN ?_ _) | (with_reducible refine Kd.C_drew ?_))); (case side2 => exact (Kd.R_reads' HO149.out).2.1); (case side3 => repeat (first | exact (Kd.R_reads' HO_6.out).2.2 | (with_reducible refine Kd.C_alloc ?_ _) | (with_reducible refine Kd.C_drewN ?_ _) | (with_reducible refine Kd.C_drew ?_))); (case side4 => exact (Kd.R_reads' HO_6.out).2.1); rintro e w90 ⟨rfl, hb⟩; refine ⟨_, rfl, ?_⟩; have n0_ := Aside0.mk (Kd.R_below (by (with_reducible repeat (first | apply Kd.R_alloc | apply Kd.R_drewN | apply Kd.R_drew)); exact HO_6.out) hb); have n1_ := Aside0.mk (Kd.R_below (by (with_reducible repeat (first | apply Kd.R_alloc | apply Kd.R_drewN | apply Kd.R_drew)); exact HO_10.out) hb); have n2_ := Aside0.mk (Kd.R_below (by (with_reducible repeat (first | apply Kd.R_alloc | apply Kd.R_drewN | apply Kd.R_drew)); exact HO142.out) hb); have n3_ := Aside0.mk (Kd.R_below (by (with_reducible repeat (first | apply Kd.R_alloc | apply Kd.R_drewN | apply Kd.R_drew)); exact HO145.out) hb); have n4_ := Aside0.mk (Kd.R_below (by (with_reducible repeat (first | apply Kd.R_alloc | apply Kd.R_drewN | apply Kd.R_drew)); exact HO149.out) hb); have n5_ := Aside0.mk (below_step (by repeat (first | (with_reducible first | exact HB.out | apply below_alloc | apply pw_below_drewN | apply below_drew1) | exact HB.out)) hb); clear HO_6; clear HO_10; clear HO142; clear HO145; clear HO149; clear HB; have HO_6 := n0_; have HO_10 := n1_; have HO142 := n2_; have HO145 := n3_; have HO149 := n4_; have HB := n5_; clear n0_ n1_ n2_ n3_ n4_ n5_; (try clear hb); (try clear hb2); (try clear hk); (try clear hi)))
                              go_meet
                              case rel => exact ⟨_, (true), (by first | rfl | (simp; done) | (simp [*]; done)), H', ⟨by have := HJ16.out; have := HJ52.out; first | omega | exact Nat.le_refl _⟩, ⟨by (with_reducible repeat (first | apply Kd.R_alloc | apply Kd.R_drewN | apply Kd.R_drew)); exact Kd.R_mono HO_10.out (fun _ hk => trivial)⟩, ⟨by repeat (first | (with_reducible first | exact HB.out | apply below_alloc | apply pw_below_drewN | apply below_drew1) | exact HB.out)⟩⟩
                          case rest =>
                            clear HC77
                            try clear c1
                            try clear c2
                            try clear p2
                            try clear c3
                            try clear c4
                            try clear c5
                            try clear c6
                            try clear c6b0
                            try clear c6b1
                            try clear c6b2
                            try clear c7
                            try clear c8
                            try clear c10
                            try clear c10b0
                            try clear c10b1
                            try clear c10b2
                            try clear c12
                            try clear c13
                            try clear c15
                            try clear c17
                            try clear c29
                            try clear c30
                            try clear c31
                            try clear c36
                            try clear c43
                            try clear c46
                            try clear c47
                            try clear c48
                            try clear c49
                            try clear c50
                            try clear c56
                            try clear c56b0
                            try clear c56b1
                            try clear c56b2
                            try clear c58
                            try clear c65
                            try clear c72
                            try clear c72b0
                            try clear c72b1
                            try clear c72b2
                            try clear c73
                            try clear c73b0
                            try clear c73b1
                            try clear c84
                            try clear p2
                            obtain ⟨kq, x110_76, rfl, HA, HJ76, HO_10, HB⟩ := hcut
                            have hl10_76 := (Kd.R_reads' HO_10.out).1
                            rw [hl10_76] at HO_10
                            (try simp only [hl10_76])
                            cases kq with
                            | zero => exact absurd HA.out (by simp [laws_FnExactApplyChanges.j2])
                            | succ kj76 =>
                              have H := HA.out
                              clear HA
                              simp only [laws_FnExactApplyChanges.j2] at H
                              by_cases c91 : x110_76 = true
                              · subst c91
                                have H1 : (some false) = some r := by rw [if_pos rfl] at H; exact H
                                clear H
                                have H := H1
                                clear H1
                                obtain rfl := Option.some.inj H
                                go_wp2
                                go_ret
                                exact ⟨by first | rfl | (simp [errW_none, errW_some] <;> rfl) | (simp [*, errW_none, errW_some] <;> rfl), by repeat (first | (with_reducible first | exact HB.out | apply below_alloc | apply pw_below_drewN | apply below_drew1) | exact HB.out)⟩
                              · replace c91 := Bool.eq_false_iff.mpr c91
                                subst c91
                                have H1 : ((laws_heldEntryS.f kj76 t138 1).bind fun t151 => (if t151 < 0 then (some false) else (if t151 = t137 then (some true) else (some false)))) = some r := by rw [if_neg (show ¬ (false = true) by decide)] at H; exact H
                                clear H
                                have H := H1
                                clear H1
                                replace H := Option.bind_eq_some_iff.mp H
                                obtain ⟨t151, A920, H⟩ := H
                                replace H : (if t151 < 0 then (some false) else (if t151 = t137 then (some true) else (some false))) = some r := H
                                have A92 := Aside0.mk A920
                                clear A920
                                have HC93 := Aside0.mk H
                                clear H
                                go_upto_if 115 with (first | ((with_reducible refine gate_callee (f := 50) rfl ?_); refine goesL_ (some 113) rfl rfl Try.func50 (by kernel_rfl) rfl #[.slice Ao69 t138.length co69, .int .i64 1] rfl (by (try simp only [List.map_toArray, List.map_cons, List.map_nil]); first | done | rfl | (simp only [List.length_drop, List.length_take]; rfl)) ?_; (with_reducible refine (laws_heldEntryS.calls kj76 _ _ t138 1 t151 _ ?side1 ?side2 A92.out).mono ?_); (case side1 => repeat (first | exact (Kd.R_reads' HO_10.out).2.2 | (with_reducible refine Kd.C_alloc ?_ _) | (with_reducible refine Kd.C_drewN ?_ _) | (with_reducible refine Kd.C_drew ?_))); (case side2 => exact (Kd.R_reads' HO_10.out).2.1); rintro e w94 ⟨rfl, hb⟩; refine ⟨_, rfl, ?_⟩; have n0_ := Aside0.mk (Kd.R_below (by (with_reducible repeat (first | apply Kd.R_alloc | apply Kd.R_drewN | apply Kd.R_drew)); exact HO_10.out) hb); have n1_ := Aside0.mk (below_step (by repeat (first | (with_reducible first | exact HB.out | apply below_alloc | apply pw_below_drewN | apply below_drew1) | exact HB.out)) hb); clear HO_10; clear HB; have HO_10 := n0_; have HB := n1_; clear n0_ n1_; (try clear hb); (try clear hb2); (try clear hk); (try clear hi)))
                                (try simp only [Act.put, List.setIfInBounds_toArray, List.set_cons_zero, List.set_cons_succ])
                                have H := HC93.out
                                clear HC93
                                by_cases c95 : t151 < 0
                                · rw [if_pos c95] at H
                                  have c95b0 : decide (t151 < 0) = true := decide_eq_true c95
                                  clear c95
                                  (first | rw [c95b0] | (simp only [i64_w, i32_w]; rw [c95b0]) | (simp only [c95b2, Bool.not_true, Bool.not_false]) | (simp only [c95b1, Bool.not_true, Bool.not_false]) | (simp only [c95b0, Bool.not_true, Bool.not_false]) | skip)
                                  obtain rfl := Option.some.inj H
                                  go_wp2
                                  go_ret
                                  exact ⟨by first | rfl | (simp [errW_none, errW_some] <;> rfl) | (simp [*, errW_none, errW_some] <;> rfl), by repeat (first | (with_reducible first | exact HB.out | apply below_alloc | apply pw_below_drewN | apply below_drew1) | exact HB.out)⟩
                                · rw [if_neg c95] at H
                                  have c95b0 : decide (t151 < 0) = false := decide_eq_false c95
                                  clear c95
                                  (first | rw [c95b0] | (simp only [i64_w, i32_w]; rw [c95b0]) | (simp only [c95b2, Bool.not_true, Bool.not_false]) | (simp only [c95b1, Bool.not_true, Bool.not_false]) | (simp only [c95b0, Bool.not_true, Bool.not_false]) | skip)
                                  by_cases c96 : t151 = t137
                                  · rw [if_pos c96] at H
                                    have c96b0 : (t151 == t137) = true := beq_iff_eq.mpr c96
                                    have c96b1 : (t151 != t137) = false := bne_eq_false_iff_eq.mpr c96
                                    clear c96
                                    obtain rfl := Option.some.inj H
                                    go_wp2
                                    go_ret
                                    exact ⟨by first | rfl | (simp [errW_none, errW_some] <;> rfl) | (simp [*, errW_none, errW_some] <;> rfl), by repeat (first | (with_reducible first | exact HB.out | apply below_alloc | apply pw_below_drewN | apply below_drew1) | exact HB.out)⟩
                                  · rw [if_neg c96] at H
                                    have c96b0 : (t151 == t137) = false := beq_eq_false_iff_ne.mpr c96
                                    have c96b1 : (t151 != t137) = true := bne_iff_ne.mpr c96
                                    obtain rfl := Option.some.inj H
                                    go_wp2
                                    go_ret
                                    exact ⟨by first | rfl | (simp [errW_none, errW_some] <;> rfl) | (simp [*, errW_none, errW_some] <;> rfl), by repeat (first | (with_reducible first | exact HB.out | apply below_alloc | apply pw_below_drewN | apply below_drew1) | exact HB.out)⟩
                        · rw [if_neg c73] at H
                          have c73b0 : (t139 == t137) = false := beq_eq_false_iff_ne.mpr c73
                          have c73b1 : (t139 != t137) = true := bne_iff_ne.mpr c73
                          obtain rfl := Option.some.inj H
                          go_wp2
                          go_ret
                          exact ⟨by first | rfl | (simp [errW_none, errW_some] <;> rfl) | (simp [*, errW_none, errW_some] <;> rfl), by repeat (first | (with_reducible first | exact HB.out | apply below_alloc | apply pw_below_drewN | apply below_drew1) | exact HB.out)⟩
              · replace c50 := Bool.eq_false_iff.mpr c50
                subst c50
                have H1 : (some false) = some r := by rw [if_neg (show ¬ (false = true) by decide)] at H; exact H
                clear H
                have H := H1
                clear H1
                obtain rfl := Option.some.inj H
                go_wp2
                go_ret
                exact ⟨by first | rfl | (simp [errW_none, errW_some] <;> rfl) | (simp [*, errW_none, errW_some] <;> rfl), by repeat (first | (with_reducible first | exact HB.out | apply below_alloc | apply pw_below_drewN | apply below_drew1) | exact HB.out)⟩
            · replace c43 := Bool.eq_false_iff.mpr c43
              subst c43
              have H1 : (some false) = some r := by rw [if_neg (show ¬ (false = true) by decide)] at H; exact H
              clear H
              have H := H1
              clear H1
              obtain rfl := Option.some.inj H
              go_wp2
              go_ret
              exact ⟨by first | rfl | (simp [errW_none, errW_some] <;> rfl) | (simp [*, errW_none, errW_some] <;> rfl), by repeat (first | (with_reducible first | exact HB.out | apply below_alloc | apply pw_below_drewN | apply below_drew1) | exact HB.out)⟩
end Go.Proofs.Ythnigkbbmhnafaa.Q
namespace Go.Proofs.Ythnigkbbmhnafaa.Q
open Go.RowKit Go.Proofs.YthnigkbbmhnafaaW.PrintWords Go.Proofs.YthnigkbbmhnafaaW.PrintLast Go.Proofs.YthnigkbbmhnafaaW.PrintMore
attribute [local go_sem] max2_int min2_int max_two min_two max_three min_three max_four min_four
set_option linter.unusedVariables false
set_option linter.unusedSimpArgs false
def laws_FnExactApplyChanges.Pure : Prop := ∀ (x0 : List (S68)) (x1 : List (S101)), (x0.length ≤ maxLen ∧ ∀ y0 ∈ x0, W68 y0) → (x1.length ≤ maxLen ∧ ∀ y0 ∈ x1, W101 y0) → ∃ k, laws_FnExactApplyChanges.f k x0 x1 = some true
end Go.Proofs.Ythnigkbbmhnafaa.Q
