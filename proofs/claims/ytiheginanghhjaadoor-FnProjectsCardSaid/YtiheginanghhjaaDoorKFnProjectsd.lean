/- changes lead from one state to the other, undoing gives the state before, versions come from earlier ones This text holds the functions' walks and the words for them. -/
import Derived.Lib.SliceRun
import Derived.Laws.CopyRow
import Derived.Lib.Overlaps
import Derived.Deep.RegionLaw
import Derived.Laws.Externs
import Derived.Lib.AppendZerosOnto
import Derived.Lib.Walk
import Derived.Test.YtiheginanghhjaaDoorProg
import Derived.Lib.LaidTab
import Derived.Lib.ItoaNum
import Derived.WalkSmall
import Derived.KernelRfl
import Derived.Lib.AppendIntMem
import Derived.Test.YtiheginanghhjaaDoorKFnProjectsa
import Derived.Test.YtiheginanghhjaaDoorKFnProjectsc
set_option linter.unusedVariables false
set_option linter.unusedSimpArgs false
namespace Go.Proofs.YtiheginanghhjaaDoor.Q
open Go.RowKit Go.Proofs.YtiheginanghhjaaDoorW.PrintWords Go.Proofs.YtiheginanghhjaaDoorW.PrintLast Go.Proofs.YtiheginanghhjaaDoorW.PrintMore
attribute [local go_sem] aJ_ aI_ aW_ aX_ az_ aA_ aG_ aH_
def bM_.f (k : Nat) (l0 : List (S59)) (a1 : ByteArray) : Option (Int × Bool) := (bj_.f k l0 a1).bind fun bt101 => (some (bt101.1, bt101.2))
set_option maxHeartbeats 8000000 in
set_option maxRecDepth 100000 in
theorem bM_.calls (k : Nat) (A0 : Option Addr) (c0 : Nat) (l0 : List (S59)) (a1 : ByteArray) (r1 : Int) (r2 : Bool) (w : World) (hr0 : Kd.C k59 w A0 l0.length l0) (hc0 : l0.length ≤ c0) (h : bM_.f k l0 a1 = some (r1, r2)) :
  Calls Tryd.prog 25 #[.slice A0 l0.length c0, .string a1] w fun e w' => e = .returned (.tuple #[.int .i64 r1, .bool r2]) ∧ Below w.heap.size w w' := by
 have HR0 := Aside0.mk hr0
 have HC0 := Aside0.mk hc0
 clear hr0 hc0
 have HB := Aside0.mk (Below.refl w.heap.size w)
 have H : ((bj_.f k l0 a1).bind fun bt101 => (some (bt101.1, bt101.2))) = some (r1, r2) := h
 clear h
 replace H := Option.bind_eq_some_iff.mp H
 obtain ⟨⟨t101, t102⟩, A30, H⟩ := H
 (try dsimp only at H)
 have A3 := Aside0.mk A30
 clear A30
 simp only [Option.some.injEq, Prod.mk.injEq] at H
 obtain ⟨rfl, rfl⟩ := H
 go_enter Tryd.func25, Tryd.ntmps25
 go_wp2_with (first | ((with_reducible refine as_ (f := 52) rfl ?_); refine bw_ (some 8) rfl rfl Tryd.func52 (by kernel_rfl) rfl #[.slice A0 l0.length c0, .string a1, .func (.func 53) #[] #[]] rfl (by first | rfl | (simp only [lma_, lmc_, lmn_]; first | done | rfl)) ?_; (with_reducible refine (bj_.calls k _ _ l0 a1  t101 t102 _ ?side1 ?side2 A3.out).mono ?_); (case side1 => exact cz HR0.out); (case side2 => exact HC0.out); rintro e w4 ⟨rfl, hb⟩; refine ⟨_, rfl, ?_⟩; replace HB := Aside0.mk (ab_ (bz HB.out) hb); (try clear hb)))
 go_ret2
 exact ⟨by first | rfl | (simp [*, ap_, ao_] <;> rfl), bz HB.out⟩
def dk_.f (k : Nat) (l0 : List (S59)) (a1 : ByteArray) : Option (ByteArray × Int × Int) := (bM_.f k l0 a1).bind fun bt102 => (if bt102.2 = true then (if 0 ≤ bt102.1 then (if bt102.1 < (l0.length : Int) then (some ((aa_ l0 bt102.1).f1.f0, (aa_ l0 bt102.1).f1.f1, (aa_ l0 bt102.1).f1.f2)) else (none)) else (none)) else (some ((⟨#[]⟩ : ByteArray), 0, 0)))
set_option maxHeartbeats 8000000 in
set_option maxRecDepth 100000 in
theorem dk_.calls (k : Nat) (A0 : Option Addr) (c0 : Nat) (l0 : List (S59)) (a1 : ByteArray) (r1 : ByteArray) (r2 : Int) (r3 : Int) (w : World) (hr0 : Kd.C k59 w A0 l0.length l0) (hc0 : l0.length ≤ c0) (h : dk_.f k l0 a1 = some (r1, r2, r3)) :
  Calls Tryd.prog 26 #[.slice A0 l0.length c0, .string a1] w fun e w' => e = .returned (.agg #[.string r1, .int .i64 r2, .int .i64 r3]) ∧ Below w.heap.size w w' := by
 have hu57 := Tryd.underlying57
 have HR0 := Aside0.mk hr0
 have HC0 := Aside0.mk hc0
 clear hr0 hc0
 have HB := Aside0.mk (Below.refl w.heap.size w)
 have H : ((bM_.f k l0 a1).bind fun bt102 => (if bt102.2 = true then (if 0 ≤ bt102.1 then (if bt102.1 < (l0.length : Int) then (some ((aa_ l0 bt102.1).f1.f0, (aa_ l0 bt102.1).f1.f1, (aa_ l0 bt102.1).f1.f2)) else (none)) else (none)) else (some ((⟨#[]⟩ : ByteArray), 0, 0)))) = some (r1, r2, r3) := h
 clear h
 replace H := Option.bind_eq_some_iff.mp H
 obtain ⟨⟨t102, t103⟩, A30, H⟩ := H
 (try dsimp only at H)
 have A3 := Aside0.mk A30
 clear A30
 have HC4 := Aside0.mk H
 clear H
 go_enter Tryd.func26, Tryd.ntmps26
 go_upto_if 13 with (first | ((with_reducible refine aL_ (N := 4) rfl ?_); refine bz_ ?hg (N := 4) ?hd (cs := #[.string (⟨#[]⟩ : ByteArray), .int .i64 0, .int .i64 0]) (t := 57) ?hr ?_; (case hd => rfl); (case hg => rfl); (case hr => (go_simp; try rfl)); intro gb101 hg w5 hbox hb; have BK101 := Aside0.mk (hbox); have GW101 := Aside0.mk ((by rw [hg]; exact (ag_ (bz HB.out)) : w.heap.size ≤ gb101)); have GE101 := GW101; replace HB := Aside0.mk (ab_ (bz HB.out) hb); clear hb hbox hg) | ((with_reducible refine as_ (f := 25) rfl ?_); refine bw_ (some 10) rfl rfl Tryd.func25 (by kernel_rfl) rfl #[.slice A0 l0.length c0, .string a1] rfl (by first | rfl | (simp only [lma_, lmc_, lmn_]; first | done | rfl)) ?_; (with_reducible refine (bM_.calls k _ _ l0 a1 t102 t103 _ ?side1 ?side2 A3.out).mono ?_); (case side1 => exact cz (Kd.bk_ HR0.out HB.out)); (case side2 => exact HC0.out); rintro e w6 ⟨rfl, hb⟩; refine ⟨_, rfl, ?_⟩; replace BK101 := Aside0.mk (aS_ (kz BK101.out) hb); replace HB := Aside0.mk (ab_ (bq) hb); (try clear hb)))
 (try simp only [Act.put, lsa_, ls0_, ls1_])
 have H := HC4.out
 clear HC4
 by_cases c7 : t103 = true
 rotate_left
 ·replace c7 := Bool.eq_false_iff.mpr c7
  subst c7
  have H1 : (some ((⟨#[]⟩ : ByteArray), 0, 0)) = some (r1, r2, r3) := by rw [if_neg (show ¬ (false = true) by decide)] at H; exact H
  clear H
  have H := H1
  clear H1
  simp only [Option.some.injEq, Prod.mk.injEq] at H
  obtain ⟨rfl, rfl, rfl⟩ := H
  obtain ⟨hcz11_0, hcz11_1, hcz11_2⟩ := cz3_ BK101.out
  obtain ⟨hfz11_0, hfz11_1, hfz11_2⟩ := fz3_ BK101.out
  go_wp2
  refine bodyPost_ret (results_cell_row rfl _ _ gb101 57 #[.string (⟨#[]⟩ : ByteArray), .int .i64 0, .int .i64 0] (0, 0) _ rfl (by exact kj3_2 (kj3_1 (kj3_0 (kz BK101.out)))) Tryd.underlying57 rfl (by kernel_rfl)) rfl ?_
  exact ⟨by first | rfl | (simp [*, ap_, ao_] <;> rfl), bq⟩
 subst c7
 have H1 : (if 0 ≤ t102 then (if t102 < (l0.length : Int) then (some ((aa_ l0 t102).f1.f0, (aa_ l0 t102).f1.f1, (aa_ l0 t102).f1.f2)) else (none)) else (none)) = some (r1, r2, r3) := by rw [if_pos rfl] at H; exact H
 clear H
 have H := H1
 clear H1
 by_cases c8 : 0 ≤ t102
 rotate_left
 ·rw [if_neg c8] at H
  exact absurd H (by simp)
 rw [if_pos c8] at H
 have c8b0 : decide (0 ≤ t102) = true := decide_eq_true c8
 clear c8
 (first | rw [c8b0] | (simp only [i64_w, i32_w]; rw [c8b0]) | (simp only [c8b1, Bool.not_true, Bool.not_false]) | (simp only [c8b0, Bool.not_true, Bool.not_false]) | skip)
 by_cases c9 : t102 < (l0.length : Int)
 rotate_left
 ·rw [if_neg c9] at H
  exact absurd H (by simp)
 rw [if_pos c9] at H
 have c9b0 : decide (t102 < (l0.length : Int)) = true := decide_eq_true c9
 clear c9
 simp only [Option.some.injEq, Prod.mk.injEq] at H
 obtain ⟨rfl, rfl, rfl⟩ := H
 have p104 : 0 ≤ (t102 : Int) := of_decide_eq_true (by assumption)
 have q104 : t102 < (l0.length : Int) := of_decide_eq_true (by assumption)
 obtain ⟨ad104, e104, hx104_0, hx104_1, hx104_2, hx104_3⟩ := cH_ HR0.out t102 p104 q104
 cases e104
 replace hx104_0 := bu_ HB.out hx104_0
 replace hx104_1 := bu_ HB.out hx104_1
 replace hx104_2 := bu_ HB.out hx104_2
 replace hx104_3 := bu_ HB.out hx104_3
 replace p104 := eq_true p104
 replace q104 := eq_true q104
 obtain ⟨hcz10_0, hcz10_1, hcz10_2⟩ := cz3_ BK101.out
 obtain ⟨hfz10_0, hfz10_1, hfz10_2⟩ := fz3_ BK101.out
 go_wp2
 refine bodyPost_ret (results_cell_row rfl _ _ gb101 57 #[.string ((aa_ l0 t102).f1.f0), .int .i64 ((aa_ l0 t102).f1.f1), .int .i64 ((aa_ l0 t102).f1.f2)] (0, 0) _ rfl (by exact kj3_2 (kj3_1 (kj3_0 (kz BK101.out)))) Tryd.underlying57 rfl (by kernel_rfl)) rfl ?_
 exact ⟨by first | rfl | (simp [*, ap_, ao_] <;> rfl), bq⟩
end Go.Proofs.YtiheginanghhjaaDoor.Q
namespace Go.Proofs.YtiheginanghhjaaDoor.Q
open Go.RowKit Go.Proofs.YtiheginanghhjaaDoorW.PrintWords Go.Proofs.YtiheginanghhjaaDoorW.PrintLast Go.Proofs.YtiheginanghhjaaDoorW.PrintMore
attribute [local go_sem] aJ_ aI_ aW_ aX_ az_ aA_ aG_ aH_
attribute [local go_sem high] eqA57
mutual
def av_.j0 : Nat → List (S59) → List (S59) → Bool → Option ((List (S63)) × Int)
 | 0, _, _, _ => none
 | k + 1, x0, x1, x20 => if x20 = true then (some (([] : List (S63)), 1)) else (av_.l0 k x0 x1 (([] : List (S63))) x0 (x0.length : Int) 0)
def av_.l0 : Nat → List (S59) → List (S59) → List (S63) → List (S59) → Int → Int → Option ((List (S63)) × Int)
 | 0, _, _, _, _, _, _ => none
 | k + 1, x0, x1, x6, x22, x23, x24 => if x24 < x23 then (if 0 ≤ x24 then (if x24 < (x22.length : Int) then ((bM_.f k x1 ((aa_ x22 x24).f0)).bind fun bt108 => (if bt108.2 = true then (av_.l0 k x0 x1 x6 x22 x23 (wrap64 (x24 + 1))) else (if x6.length < 2513169434916 then (av_.l0 k x0 x1 (x6 ++ [(⟨2, (⟨(aa_ x22 x24).f0, (⟨(aa_ x22 x24).f1.f0, (aa_ x22 x24).f1.f1, (aa_ x22 x24).f1.f2⟩ : S57)⟩ : S59)⟩ : S63)]) x22 x23 (wrap64 (x24 + 1))) else (none)))) else (none)) else (none)) else (av_.l1 k x0 x6 x1 (x1.length : Int) 0)
def av_.l1 : Nat → List (S59) → List (S63) → List (S59) → Int → Int → Option ((List (S63)) × Int)
 | 0, _, _, _, _, _ => none
 | k + 1, x0, x6, x43, x44, x45 => if x45 < x44 then (if 0 ≤ x45 then (if x45 < (x43.length : Int) then ((dk_.f k x0 ((aa_ x43 x45).f0)).bind fun bt115 => (if (!(bt115.1.toList == (((aa_ x43 x45).f1.f0).toList)) || (!(bt115.2.1 == ((aa_ x43 x45).f1.f1)) || (!(bt115.2.2 == ((aa_ x43 x45).f1.f2))))) = true then (if x6.length < 2513169434916 then (av_.l1 k x0 (x6 ++ [(⟨1, (⟨(aa_ x43 x45).f0, (⟨(aa_ x43 x45).f1.f0, (aa_ x43 x45).f1.f1, (aa_ x43 x45).f1.f2⟩ : S57)⟩ : S59)⟩ : S63)]) x43 x44 (wrap64 (x45 + 1))) else (none)) else (av_.l1 k x0 x6 x43 x44 (wrap64 (x45 + 1))))) else (none)) else (none)) else (some (x6, 0))
end
def av_.f (k : Nat) (l0 : List (S59)) (l1 : List (S59)) : Option ((List (S63)) × Int) := (an_.f k l0).bind fun t101 => (if t101 = true then ((an_.f k l1).bind fun t102 => (av_.j0 k l0 l1 (!t102))) else (av_.j0 k l0 l1 true))
set_option maxHeartbeats 8000000 in
set_option maxRecDepth 100000 in
theorem av_.calls (k : Nat) (A0 : Option Addr) (c0 : Nat) (l0 : List (S59)) (A1 : Option Addr) (c1 : Nat) (l1 : List (S59)) (r1 : List (S63)) (r2 : Int) (w : World) (hr0 : Kd.C k59 w A0 l0.length l0) (hc0 : l0.length ≤ c0) (hr1 : Kd.C k59 w A1 l1.length l1) (hc1 : l1.length ≤ c1) (h : av_.f k l0 l1 = some (r1, r2)) :
  Calls Tryd.prog 8 #[.slice A0 l0.length c0, .slice A1 l1.length c1] w fun e w' => ∃ v0_ : Value, e = .returned (.tuple #[v0_, .int .i64 r2]) ∧ Kd.R k63 63 w' w.heap.size (fun _ => True) v0_ r1 ∧ Below w.heap.size w w' := by
 have hu59 := Tryd.underlying59
 have hu63 := Tryd.underlying63
 have hu57 := Tryd.underlying57
 have HR0 := Aside0.mk hr0
 have HC0 := Aside0.mk hc0
 clear hr0 hc0
 have HR1 := Aside0.mk hr1
 have HC1 := Aside0.mk hc1
 clear hr1 hc1
 have HB := Aside0.mk (Below.refl w.heap.size w)
 have H : ((an_.f k l0).bind fun t101 => (if t101 = true then ((an_.f k l1).bind fun t102 => (av_.j0 k l0 l1 (!t102))) else (av_.j0 k l0 l1 true))) = some (r1, r2) := h
 clear h
 have HC3 := Aside0.mk H
 clear H
 go_enter Tryd.func8, Tryd.ntmps8
 go_upto_region 1 with (fail)
 go_cut [20] (fun v20 wc => ∃ (kq : Nat) (x20_2 : Bool), v20 = .bool x20_2 ∧ Aside0 (av_.j0 kq l0 l1 x20_2 = some (r1, r2)) ∧ Aside0 (kq ≤ k) ∧ Aside0 (Below w.heap.size w wc))
 case first =>
  have H := HC3.out
  clear HC3
  replace H := Option.bind_eq_some_iff.mp H
  obtain ⟨t101, A40, H⟩ := H
  (try dsimp only at H)
  have A4 := Aside0.mk A40
  clear A40
  by_cases c5 : t101 = true
  rotate_left
  ·replace c5 := Bool.eq_false_iff.mpr c5
   subst c5
   have H1 : (av_.j0 k l0 l1 true) = some (r1, r2) := by rw [if_neg (show ¬ (false = true) by decide)] at H; exact H
   clear H
   have H := H1
   clear H1
   have H' := Aside0.mk H
   clear H
   go_wp2_with (first | ((with_reducible refine as_ (f := 24) rfl ?_); refine bw_ (some 14) rfl rfl Tryd.func24 (by kernel_rfl) rfl #[.slice A0 l0.length c0] rfl (by first | rfl | (simp only [lma_, lmc_, lmn_]; first | done | rfl)) ?_; (with_reducible refine (an_.calls k _ _ l0 false _ ?side1 ?side2 A4.out).mono ?_); (case side1 => exact cz (Kd.bk_ HR0.out HB.out)); (case side2 => exact HC0.out); rintro e w9 ⟨rfl, hb⟩; refine ⟨_, rfl, ?_⟩; replace HB := Aside0.mk (ab_ (bz HB.out) hb); (try clear hb)))
   go_meet
   case rel => exact ⟨_, (true), (by first | rfl | (simp; done) | (simp [*]; done)), H', ⟨by first | omega | exact Nat.le_refl _⟩, ⟨bz HB.out⟩⟩
  subst c5
  have H1 : ((an_.f k l1).bind fun t102 => (av_.j0 k l0 l1 (!t102))) = some (r1, r2) := by rw [if_pos rfl] at H; exact H
  clear H
  have H := H1
  clear H1
  replace H := Option.bind_eq_some_iff.mp H
  obtain ⟨t102, A60, H⟩ := H
  (try dsimp only at H)
  have A6 := Aside0.mk A60
  clear A60
  have H' := Aside0.mk H
  clear H
  go_wp2_with (first | ((with_reducible refine as_ (f := 24) rfl ?_); refine bw_ (some 14) rfl rfl Tryd.func24 (by kernel_rfl) rfl #[.slice A0 l0.length c0] rfl (by first | rfl | (simp only [lma_, lmc_, lmn_]; first | done | rfl)) ?_; (with_reducible refine (an_.calls k _ _ l0 true _ ?side1 ?side2 A4.out).mono ?_); (case side1 => exact cz (Kd.bk_ HR0.out HB.out)); (case side2 => exact HC0.out); rintro e w7 ⟨rfl, hb⟩; refine ⟨_, rfl, ?_⟩; replace HB := Aside0.mk (ab_ (bz HB.out) hb); (try clear hb)) | (go_at_call 24; (with_reducible refine (an_.calls k _ _ l1 t102 _ ?side1 ?side2 A6.out).mono ?_); (case side1 => exact cz (Kd.bk_ HR1.out HB.out)); (case side2 => exact HC1.out); rintro e w8 ⟨rfl, hb⟩; replace HB := Aside0.mk (ab_ (bz HB.out) hb); (try clear hb)))
  go_meet
  case rel => exact ⟨_, (!t102), (by first | rfl | (simp; done) | (simp [*]; done)), H', ⟨by first | omega | exact Nat.le_refl _⟩, ⟨bz HB.out⟩⟩
 case rest =>
  clear HC3
  obtain ⟨kq, x20_2, rfl, HA, HJ2, HB⟩ := hcut
  cases kq with
  | zero => exact absurd HA.out (by simp [av_.j0])
  | succ kj2 =>
   have H := HA.out
   clear HA
   simp only [av_.j0] at H
   by_cases c10 : x20_2 = true
   rotate_left
   ·replace c10 := Bool.eq_false_iff.mpr c10
    subst c10
    have H1 : (av_.l0 kj2 l0 l1 (([] : List (S63))) l0 (l0.length : Int) 0) = some (r1, r2) := by rw [if_neg (show ¬ (false = true) by decide)] at H; exact H
    clear H
    have H := H1
    clear H1
    obtain ⟨y103, hy103⟩ : ∃ y_ : List (S63), y_ = (([] : List (S63))) := ⟨_, rfl⟩
    replace H : (av_.l0 kj2 l0 l1 y103 l0 (l0.length : Int) 0) = some (r1, r2) := by first | (rw [hy103]; with_reducible exact H) | (have H2_ := (Option.bind_some _ _).symm.trans H; rw [hy103]; with_reducible exact H2_) | (have H2_ := (Option.bind_some _ _).symm.trans H; with_reducible exact H2_) | with_reducible exact H | (rw [hy103]; exact H) | exact H
    have Ny103 := Aside0.mk hy103
    clear hy103
    have H' := Aside0.mk H
    clear H
    go_wp2_with (first | ((with_reducible refine aL_ (N := 21) rfl ?_); refine Kd.R_lit k63 _ 63 ?hg (N := 21) ?hd (xs := ([] : List (S63))) (inner := []) (ok := fun _ => True) (okp := fun _ => True) ?hr ?hp (fun _ hk => hk) trivial (Below.refl _ _) (Nat.le_refl _) (by simp) ?_; (case hd => rfl); (case hg => rfl); (case hr => (go_simp; try rfl)); (case hp => exact (Reps.none _ _)); intro v104 w11 ho12 hb hg_ hnew_; clear hg_ hnew_; (first | rw [← Ny103.out] at ho12 | (simp only [Int.reduceToNat] at ho12; rw [← Ny103.out] at ho12)); have HO105 := Aside0.mk (Kd.bi_ ho12 (ag_ (bz HB.out))); replace HB := Aside0.mk (ab_ (bz HB.out) hb); clear hb ho12))
    (try simp only [Act.put, lsa_, ls0_, ls1_])
    go_loopg [6, 24] kj2 (fun kq v6 v24 w' => ∃ (x6_2 : List (S63)) (x24_2 : Int), v24 = .int .i64 x24_2 ∧ Aside0 (av_.l0 kq l0 l1 x6_2 l0 (l0.length : Int) x24_2 = some (r1, r2)) ∧ Aside0 (kq ≤ kj2) ∧ Aside0 (Kd.R k63 63 w' w.heap.size (fun _ => True) v6 x6_2) ∧ Aside0 (Below w.heap.size w w'))
    case atStart => exact ⟨(y103), (0), (by first | rfl | (simp; done) | (simp [*]; done)), H', ⟨Nat.le_refl _⟩, ⟨rz HO105.out⟩, ⟨bz HB.out⟩⟩
    case round =>
     clear H'
     obtain ⟨x6_2, x24_2, rfl, HA, HK2, HO_6, HB⟩ := hrel
     cases gk with
     | zero => exact absurd HA.out (by simp [av_.l0])
     | succ k2 =>
      have H := HA.out
      clear HA
      simp only [av_.l0] at H
      by_cases c13 : x24_2 < (l0.length : Int)
      rotate_left
      ·rw [if_neg c13] at H
       have c13b0 : decide (x24_2 < (l0.length : Int)) = false := decide_eq_false c13
       clear c13
       have H' := Aside0.mk H
       clear H
       go_wp2
       (try simp only [Act.put, lsa_, ls0_, ls1_])
       go_loopg [6, 45] k2 (fun kq v6 v45 w' => ∃ (x6_3 : List (S63)) (x45_3 : Int), v45 = .int .i64 x45_3 ∧ Aside0 (av_.l1 kq l0 x6_3 l1 (l1.length : Int) x45_3 = some (r1, r2)) ∧ Aside0 (kq ≤ k2) ∧ Aside0 (Kd.R k63 63 w' w.heap.size (fun _ => True) v6 x6_3) ∧ Aside0 (Below w.heap.size w w'))
       case atStart => exact ⟨(x6_2), (0), (by first | rfl | (simp; done) | (simp [*]; done)), H', ⟨Nat.le_refl _⟩, ⟨rz HO_6.out⟩, ⟨bz HB.out⟩⟩
       case round =>
        clear H'
        obtain ⟨x6_3, x45_3, rfl, HA, HK3, HO_6, HB⟩ := hrel
        cases gk with
        | zero => exact absurd HA.out (by simp [av_.l1])
        | succ k3 =>
         have H := HA.out
         clear HA
         simp only [av_.l1] at H
         by_cases c25 : x45_3 < (l1.length : Int)
         rotate_left
         ·rw [if_neg c25] at H
          have c25b0 : decide (x45_3 < (l1.length : Int)) = false := decide_eq_false c25
          clear c25
          simp only [Option.some.injEq, Prod.mk.injEq] at H
          obtain ⟨rfl, rfl⟩ := H
          go_wp2
          go_ret2
          exact ⟨_, by first | rfl | (simp [*, ap_, ao_] <;> rfl), rz HO_6.out, bz HB.out⟩
         rw [if_pos c25] at H
         have c25b0 : decide (x45_3 < (l1.length : Int)) = true := decide_eq_true c25
         clear c25
         by_cases c26 : 0 ≤ x45_3
         rotate_left
         ·rw [if_neg c26] at H
          exact absurd H (by simp)
         rw [if_pos c26] at H
         have c26b0 : decide (0 ≤ x45_3) = true := decide_eq_true c26
         clear c26
         by_cases c27 : x45_3 < (l1.length : Int)
         rotate_left
         ·rw [if_neg c27] at H
          exact absurd H (by simp)
         rw [if_pos c27] at H
         have c27b0 : decide (x45_3 < (l1.length : Int)) = true := decide_eq_true c27
         clear c27
         replace H := Option.bind_eq_some_iff.mp H
         obtain ⟨⟨t115, t116, t117⟩, A280, H⟩ := H
         (try dsimp only at H)
         have A28 := Aside0.mk A280
         clear A280
         have HC29 := Aside0.mk H
         clear H
         have p113 : 0 ≤ (x45_3 : Int) := of_decide_eq_true (by assumption)
         have q113 : x45_3 < (l1.length : Int) := of_decide_eq_true (by assumption)
         obtain ⟨ad113, e113, hx113_0, hx113_1, hx113_2, hx113_3⟩ := cH_ HR1.out x45_3 p113 q113
         cases e113
         replace hx113_0 := bu_ HB.out hx113_0
         replace hx113_1 := bu_ HB.out hx113_1
         replace hx113_2 := bu_ HB.out hx113_2
         replace hx113_3 := bu_ HB.out hx113_3
         replace p113 := eq_true p113
         replace q113 := eq_true q113
         try go_wp2_with (first | ((with_reducible refine aL_ (N := 12) rfl ?_); refine bz_ ?hg (N := 12) ?hd (cs := #[.string (⟨#[]⟩ : ByteArray), .string (⟨#[]⟩ : ByteArray), .int .i64 0, .int .i64 0]) (t := 59) ?hr ?_; (case hd => rfl); (case hg => rfl); (case hr => (go_simp; try rfl)); intro gb114 hg w30 hbox hb; replace HO_6 := Aside0.mk (Kd.aM_ (rz HO_6.out) hb); have BK114 := Aside0.mk (hbox); have GW114 := Aside0.mk ((by rw [hg]; exact (ag_ (bz HB.out)) : w.heap.size ≤ gb114)); have GE114 := GW114; replace HB := Aside0.mk (ab_ (bz HB.out) hb); clear hb hbox hg; obtain ⟨hcz31_0, hcz31_1, hcz31_2, hcz31_3⟩ := cz4_ BK114.out; obtain ⟨hfz31_0, hfz31_1, hfz31_2, hfz31_3⟩ := fz4_ BK114.out))
         have n0_ : Aside0 (Kd.R k63 63 ((((w30.setCell ⟨gb114, 0, none⟩ (.string ((aa_ l1 x45_3).f0))).setCell ⟨gb114, 1, none⟩ (.string ((aa_ l1 x45_3).f1.f0))).setCell ⟨gb114, 2, none⟩ (.int .i64 ((aa_ l1 x45_3).f1.f1))).setCell ⟨gb114, 3, none⟩ (.int .i64 ((aa_ l1 x45_3).f1.f2))) w.heap.size (fun _ => True) u6 x6_3) := ⟨rz (Kd.aT_ (Kd.R_far (p := ⟨gb114, 3, none⟩) (Kd.R_far (p := ⟨gb114, 2, none⟩) (Kd.R_far (p := ⟨gb114, 1, none⟩) (Kd.R_far (p := ⟨gb114, 0, none⟩) (Kd.cs_ HO_6.out BK114.out (by decide)) (fun _ hk => hk.2) (.string ((aa_ l1 x45_3).f0))) (fun _ hk => hk.2) (.string ((aa_ l1 x45_3).f1.f0))) (fun _ hk => hk.2) (.int .i64 ((aa_ l1 x45_3).f1.f1))) (fun _ hk => hk.2) (.int .i64 ((aa_ l1 x45_3).f1.f2))) (fun _ hk => trivial))⟩
         have n1_ : Aside0 (((((w30.setCell ⟨gb114, 0, none⟩ (.string ((aa_ l1 x45_3).f0))).setCell ⟨gb114, 1, none⟩ (.string ((aa_ l1 x45_3).f1.f0))).setCell ⟨gb114, 2, none⟩ (.int .i64 ((aa_ l1 x45_3).f1.f1))).setCell ⟨gb114, 3, none⟩ (.int .i64 ((aa_ l1 x45_3).f1.f2))).heap[gb114]? = some (.cells #[.string ((aa_ l1 x45_3).f0), .string ((aa_ l1 x45_3).f1.f0), .int .i64 ((aa_ l1 x45_3).f1.f1), .int .i64 ((aa_ l1 x45_3).f1.f2)] 59 (0, 0))) := ⟨by exact kj4_3 (kj4_2 (kj4_1 (kj4_0 (kz BK114.out))))⟩
         have n2_ : Aside0 (Below w.heap.size w ((((w30.setCell ⟨gb114, 0, none⟩ (.string ((aa_ l1 x45_3).f0))).setCell ⟨gb114, 1, none⟩ (.string ((aa_ l1 x45_3).f1.f0))).setCell ⟨gb114, 2, none⟩ (.int .i64 ((aa_ l1 x45_3).f1.f1))).setCell ⟨gb114, 3, none⟩ (.int .i64 ((aa_ l1 x45_3).f1.f2)))) := ⟨bq⟩
         (try clear HO_6)
         (try clear BK114)
         (try clear HB)
         generalize ((((w30.setCell ⟨gb114, 0, none⟩ (.string ((aa_ l1 x45_3).f0))).setCell ⟨gb114, 1, none⟩ (.string ((aa_ l1 x45_3).f1.f0))).setCell ⟨gb114, 2, none⟩ (.int .i64 ((aa_ l1 x45_3).f1.f1))).setCell ⟨gb114, 3, none⟩ (.int .i64 ((aa_ l1 x45_3).f1.f2))) = w32 at n0_ n1_ n2_ ⊢
         have HO_6 := n0_
         have BK114 := n1_
         have HB := n2_
         clear n0_ n1_ n2_
         have n0_ := Aside0.mk (Kd.R_drew HO_6.out)
         have n1_ := Aside0.mk (cc_ BK114.out)
         have n2_ := Aside0.mk (bD_ HB.out)
         clear HO_6
         clear BK114
         clear HB
         have HO_6 := n0_
         have BK114 := n1_
         have HB := n2_
         clear n0_ n1_ n2_
         refine start_ (n := 7) (S := fun w' => w'.cell? ⟨gb114, 0, none⟩ = some (.string ((aa_ l1 x45_3).f0)) ∧ w'.cell? ⟨gb114, 1, none⟩ = some (.string ((aa_ l1 x45_3).f1.f0)) ∧ w'.cell? ⟨gb114, 2, none⟩ = some (.int .i64 ((aa_ l1 x45_3).f1.f1)) ∧ w'.cell? ⟨gb114, 3, none⟩ = some (.int .i64 ((aa_ l1 x45_3).f1.f2))) (ds := []) #[f_,f_,f_,f_,f_,f_,f_] (by kernel_rfl) rfl rfl ⟨(aO_ BK114.out 0).trans rfl, (aO_ BK114.out 1).trans rfl, (aO_ BK114.out 2).trans rfl, (aO_ BK114.out 3).trans rfl⟩ (fun hHeld => ?_)
         generalize w32.drew = w33 at HO_6 BK114 HB hHeld ⊢
         refine pure_ (i := 0) (N := some 49) (v := ?_) (a' := ?_) #[t_,f_,f_,f_,f_,f_,f_] rfl rfl (by kernel_rfl) (fun _ _ _ h => h) (Or.inl ⟨by rfl, ?_⟩) ?_ ?_
         rotate_left
         ·intro w'
          go_simp
          with_reducible rfl
         rotate_left
         ·simp only [Act.put, lsa_, ls0_, ls1_, i64_w, i32_w]
          rfl
         refine pure_ (i := 1) (N := some 50) (v := ?_) (a' := ?_) #[t_,t_,f_,f_,f_,f_,f_] rfl rfl (by kernel_rfl) (fun _ _ _ h => h) (Or.inl ⟨by rfl, ?_⟩) ?_ ?_
         rotate_left
         ·intro w'
          go_simp
          with_reducible rfl
         rotate_left
         ·simp only [Act.put, lsa_, ls0_, ls1_, i64_w, i32_w]
          rfl
         refine pure_ (i := 4) (N := some 53) (v := ?_) (a' := ?_) #[t_,t_,f_,f_,t_,f_,f_] rfl rfl (by kernel_rfl) (fun _ _ _ h => h) (Or.inl ⟨by rfl, ?_⟩) ?_ ?_
         rotate_left
         ·intro w'
          go_simp
          with_reducible rfl
         rotate_left
         ·simp only [Act.put, lsa_, ls0_, ls1_, i64_w, i32_w]
          rfl
         refine take_ (i := 2) (N := some 51) (v := ?_) (a' := ?_) #[t_,t_,t_,f_,t_,f_,f_] rfl rfl (by kernel_rfl) (fun _ _ _ h => h) (Or.inl ⟨by rfl, ?_⟩) hHeld ?_ ?_
         rotate_left
         ·rintro w' ⟨s0, s1, s2, s3⟩
          go_simp
          with_reducible rfl
         rotate_left
         ·simp only [Act.put, lsa_, ls0_, ls1_, i64_w, i32_w]
          rfl
         refine take_ (i := 5) (N := some 54) (v := ?_) (a' := ?_) #[t_,t_,t_,f_,t_,t_,f_] rfl rfl (by kernel_rfl) (fun _ _ _ h => h) (Or.inl ⟨by rfl, ?_⟩) hHeld ?_ ?_
         rotate_left
         ·rintro w' ⟨s0, s1, s2, s3⟩
          go_simp
          with_reducible rfl
         rotate_left
         ·simp only [Act.put, lsa_, ls0_, ls1_, i64_w, i32_w]
          rfl
         refine one_ (i := 3) (N := some 52) #[t_,t_,t_,t_,t_,t_,f_] rfl rfl (by kernel_rfl) (by decide) (fun K hK => ?_)
         (first | refine goes_ Tryd.func26 (by kernel_rfl) rfl #[.slice A0 l0.length c0, .string ((aa_ l1 x45_3).f0)] (by rfl) rfl rfl (by first | rfl | (simp only [lma_, lmc_, lmn_]; first | done | rfl)) ?_ | refine RPW.cX_ Tryd.func26 (by kernel_rfl) rfl #[.slice A0 l0.length c0, .string ((aa_ l1 x45_3).f0)] (by rfl) rfl rfl rfl (by first | rfl | (simp only [lma_, lmc_, lmn_]; first | done | rfl)) ?_ | refine RPW.cY_ Tryd.func26 (by kernel_rfl) rfl #[.slice A0 l0.length c0, .string ((aa_ l1 x45_3).f0)] (by rfl) rfl rfl rfl (by first | rfl | (simp only [lma_, lmc_, lmn_]; first | done | rfl)) ?_)
         with_reducible refine (dk_.calls k3 _ _ l0 ((aa_ l1 x45_3).f0) t115 t116 t117 _ ?side1 ?side2 A28.out).mono ?_
         (case side1 => exact cz (Kd.bk_ HR0.out HB.out))
         (case side2 => exact HC0.out)
         rintro e w34 ⟨rfl, hb⟩
         refine ⟨_, rfl, ?_⟩
         have n0_ := Aside0.mk (Kd.aM_ (rz HO_6.out) hb)
         have n1_ := Aside0.mk (aS_ (kz BK114.out) hb)
         have n2_ := Aside0.mk (ab_ (bq) hb)
         clear HO_6
         clear BK114
         clear HB
         have HO_6 := n0_
         have BK114 := n1_
         have HB := n2_
         clear n0_ n1_ n2_
         (try clear hb)
         refine hK.out _ _ ⟨(aO_ BK114.out 0).trans rfl, (aO_ BK114.out 1).trans rfl, (aO_ BK114.out 2).trans rfl, (aO_ BK114.out 3).trans rfl⟩ (fun hHeld => ?_)
         clear hK K
         refine norm_ (a' := ?_) ?_ ?_
         rotate_left
         ·show Act.put _ (some 52) _ = _
          simp only [Act.put, lsa_, ls0_, ls1_, i64_w, i32_w]
          rfl
         refine pure_ (i := 6) (N := some 55) (v := ?_) (a' := ?_) #[t_,t_,t_,t_,t_,t_,t_] rfl rfl (by kernel_rfl) (fun _ _ _ h => h) (Or.inl ⟨by rfl, ?_⟩) ?_ ?_
         rotate_left
         ·intro w'
          go_simp
          with_reducible rfl
         rotate_left
         ·simp only [Act.put, lsa_, ls0_, ls1_, i64_w, i32_w]
          rfl
         refine done_ (by kernel_rfl) ?_
         go_upto_if 55 with (fail)
         have H := HC29.out
         clear HC29
         by_cases c35 : (!(t115.toList == (((aa_ l1 x45_3).f1.f0).toList)) || (!(t116 == ((aa_ l1 x45_3).f1.f1)) || (!(t117 == ((aa_ l1 x45_3).f1.f2))))) = true
         rotate_left
         ·rw [if_neg c35] at H
          have c35b0 : (!(t115.toList == (((aa_ l1 x45_3).f1.f0).toList)) || (!(t116 == ((aa_ l1 x45_3).f1.f1)) || (!(t117 == ((aa_ l1 x45_3).f1.f2))))) = false := by simpa using c35
          clear c35
          (first | rw [c35b0] | (simp only [i64_w, i32_w]; rw [c35b0]) | (simp only [c35b1, Bool.not_true, Bool.not_false]) | (simp only [c35b0, Bool.not_true, Bool.not_false]) | skip)
          have H' := Aside0.mk H
          clear H
          go_wp2
          go_roundg k3
          case measure => have := HJ2.out; have := HK2.out; have := HK3.out; omega
          case rel => exact ⟨(x6_3), (wrap64 (x45_3 + 1)), (by first | rfl | (simp; done) | (simp [*]; done)), H', ⟨by have := HJ2.out; have := HK2.out; have := HK3.out; omega⟩, ⟨rz HO_6.out⟩, ⟨bq⟩⟩
         rw [if_pos c35] at H
         have c35b0 : (!(t115.toList == (((aa_ l1 x45_3).f1.f0).toList)) || (!(t116 == ((aa_ l1 x45_3).f1.f1)) || (!(t117 == ((aa_ l1 x45_3).f1.f2))))) = true := c35
         clear c35
         (first | rw [c35b0] | (simp only [i64_w, i32_w]; rw [c35b0]) | (simp only [c35b1, Bool.not_true, Bool.not_false]) | (simp only [c35b0, Bool.not_true, Bool.not_false]) | skip)
         by_cases c36 : x6_3.length < 2513169434916
         rotate_left
         ·rw [if_neg c36] at H
          exact absurd H (by simp)
         rw [if_pos c36] at H
         have LMc36 := Aside0.mk c36
         clear c36
         obtain ⟨y118, hy118⟩ : ∃ y_ : List (S63), y_ = (x6_3 ++ [(⟨1, (⟨(aa_ l1 x45_3).f0, (⟨(aa_ l1 x45_3).f1.f0, (aa_ l1 x45_3).f1.f1, (aa_ l1 x45_3).f1.f2⟩ : S57)⟩ : S59)⟩ : S63)]) := ⟨_, rfl⟩
         replace H : (av_.l1 k3 l0 y118 l1 (l1.length : Int) (wrap64 (x45_3 + 1))) = some (r1, r2) := by first | (rw [hy118]; with_reducible exact H) | (have H2_ := (Option.bind_some _ _).symm.trans H; rw [hy118]; with_reducible exact H2_) | (have H2_ := (Option.bind_some _ _).symm.trans H; with_reducible exact H2_) | with_reducible exact H | (rw [hy118]; exact H) | exact H
         have Ny118 := Aside0.mk hy118
         clear hy118
         have H' := Aside0.mk H
         clear H
         obtain ⟨hcz37_0, hcz37_1, hcz37_2, hcz37_3⟩ := cz4_ BK114.out
         obtain ⟨hfz37_0, hfz37_1, hfz37_2, hfz37_3⟩ := fz4_ BK114.out
         go_wp2_with (first | ((with_reducible refine bs_ (b := .append) (xs := #[.tmp 56, .tmp 59]) rfl ?_); at_builtin; refine Kd.cJ_ k63 (w0 := w) w.heap.size rfl (.tmp 56) (.tmp 59) 29 63 (.agg #[(.int .i64 0), (.string ⟨#[]⟩), (.string ⟨#[]⟩), (.int .i64 0), (.int .i64 0)]) 56 rfl Tryd.underlying29 info63 rfl (by decide) (by omega) u6 x6_3 (⟨1, (⟨(aa_ l1 x45_3).f0, (⟨(aa_ l1 x45_3).f1.f0, (aa_ l1 x45_3).f1.f1, (aa_ l1 x45_3).f1.f2⟩ : S57)⟩ : S59)⟩ : S63) [.int .i64 1, .string ((aa_ l1 x45_3).f0), .string ((aa_ l1 x45_3).f1.f0), .int .i64 ((aa_ l1 x45_3).f1.f1), .int .i64 ((aa_ l1 x45_3).f1.f2)] (fun _ => True) (fun _ => False) rfl rfl ?aP (fun _ hk => hk.elim) ?aF ?aO ?aB ?aS ?aL ?_; (case aP => exact k63_mkM _ _ _ (⟨1, (⟨(aa_ l1 x45_3).f0, (⟨(aa_ l1 x45_3).f1.f0, (aa_ l1 x45_3).f1.f1, (aa_ l1 x45_3).f1.f2⟩ : S57)⟩ : S59)⟩ : S63)); (case aB => exact (bq)); (case aF => exact (fun _ _ => trivial)); (case aO => exact (rz HO_6.out)); (case aS => exact (ag_ (bq))); (case aL => have := LMc36.out; omega); intro v119 w38 ho hb hg hat; rw [← Ny118.out] at ho; replace BK114 := Aside0.mk (ce_ (g := gb114) (o := .cells #[.string ((aa_ l1 x45_3).f0), .string ((aa_ l1 x45_3).f1.f0), .int .i64 ((aa_ l1 x45_3).f1.f1), .int .i64 ((aa_ l1 x45_3).f1.f2)] 59 (0, 0)) (kz BK114.out) hg (Kd.R_ne HO_6.out BK114.out (by decide))); replace HB := Aside0.mk (hb); have HO120 := Aside0.mk (ho); clear HO_6; clear ho hb hg hat))
         go_roundg k3
         case measure => have := HJ2.out; have := HK2.out; have := HK3.out; omega
         case rel => exact ⟨(y118), (wrap64 (x45_3 + 1)), (by first | rfl | (simp; done) | (simp [*]; done)), H', ⟨by have := HJ2.out; have := HK2.out; have := HK3.out; omega⟩, ⟨rz HO120.out⟩, ⟨bq⟩⟩
      rw [if_pos c13] at H
      have c13b0 : decide (x24_2 < (l0.length : Int)) = true := decide_eq_true c13
      clear c13
      by_cases c14 : 0 ≤ x24_2
      rotate_left
      ·rw [if_neg c14] at H
       exact absurd H (by simp)
      rw [if_pos c14] at H
      have c14b0 : decide (0 ≤ x24_2) = true := decide_eq_true c14
      clear c14
      by_cases c15 : x24_2 < (l0.length : Int)
      rotate_left
      ·rw [if_neg c15] at H
       exact absurd H (by simp)
      rw [if_pos c15] at H
      have c15b0 : decide (x24_2 < (l0.length : Int)) = true := decide_eq_true c15
      clear c15
      replace H := Option.bind_eq_some_iff.mp H
      obtain ⟨⟨t108, t109⟩, A160, H⟩ := H
      (try dsimp only at H)
      have A16 := Aside0.mk A160
      clear A160
      have HC17 := Aside0.mk H
      clear H
      have p106 : 0 ≤ (x24_2 : Int) := of_decide_eq_true (by assumption)
      have q106 : x24_2 < (l0.length : Int) := of_decide_eq_true (by assumption)
      obtain ⟨ad106, e106, hx106_0, hx106_1, hx106_2, hx106_3⟩ := cH_ HR0.out x24_2 p106 q106
      cases e106
      replace hx106_0 := bu_ HB.out hx106_0
      replace hx106_1 := bu_ HB.out hx106_1
      replace hx106_2 := bu_ HB.out hx106_2
      replace hx106_3 := bu_ HB.out hx106_3
      replace p106 := eq_true p106
      replace q106 := eq_true q106
      go_upto_if 36 with (first | ((with_reducible refine aL_ (N := 8) rfl ?_); refine bz_ ?hg (N := 8) ?hd (cs := #[.string (⟨#[]⟩ : ByteArray), .string (⟨#[]⟩ : ByteArray), .int .i64 0, .int .i64 0]) (t := 59) ?hr ?_; (case hd => rfl); (case hg => rfl); (case hr => (go_simp; try rfl)); intro gb107 hg w18 hbox hb; replace HO_6 := Aside0.mk (Kd.aM_ (rz HO_6.out) hb); have BK107 := Aside0.mk (hbox); have GW107 := Aside0.mk ((by rw [hg]; exact (ag_ (bz HB.out)) : w.heap.size ≤ gb107)); have GE107 := GW107; replace HB := Aside0.mk (ab_ (bz HB.out) hb); clear hb hbox hg; obtain ⟨hcz19_0, hcz19_1, hcz19_2, hcz19_3⟩ := cz4_ BK107.out; obtain ⟨hfz19_0, hfz19_1, hfz19_2, hfz19_3⟩ := fz4_ BK107.out) | ((with_reducible refine as_ (f := 25) rfl ?_); refine bw_ (some 32) rfl rfl Tryd.func25 (by kernel_rfl) rfl #[.slice A1 l1.length c1, .string ((aa_ l0 x24_2).f0)] rfl (by first | rfl | (simp only [lma_, lmc_, lmn_]; first | done | rfl)) ?_; (with_reducible refine (bM_.calls k2 _ _ l1 ((aa_ l0 x24_2).f0) t108 t109 _ ?side1 ?side2 A16.out).mono ?_); (case side1 => exact Kd.bk_ HR1.out (bq)); (case side2 => exact HC1.out); rintro e w20 ⟨rfl, hb⟩; refine ⟨_, rfl, ?_⟩; replace HO_6 := Aside0.mk (Kd.aM_ (rz (Kd.aT_ (Kd.R_far (p := ⟨gb107, 3, none⟩) (Kd.R_far (p := ⟨gb107, 2, none⟩) (Kd.R_far (p := ⟨gb107, 1, none⟩) (Kd.R_far (p := ⟨gb107, 0, none⟩) (Kd.cs_ HO_6.out BK107.out (by decide)) (fun _ hk => hk.2) (.string ((aa_ l0 x24_2).f0))) (fun _ hk => hk.2) (.string ((aa_ l0 x24_2).f1.f0))) (fun _ hk => hk.2) (.int .i64 ((aa_ l0 x24_2).f1.f1))) (fun _ hk => hk.2) (.int .i64 ((aa_ l0 x24_2).f1.f2))) (fun _ h_ => h_.1))) hb); replace BK107 := Aside0.mk (aS_ (g := gb107) (o := .cells #[.string ((aa_ l0 x24_2).f0), .string ((aa_ l0 x24_2).f1.f0), .int .i64 ((aa_ l0 x24_2).f1.f1), .int .i64 ((aa_ l0 x24_2).f1.f2)] 59 (0, 0)) (by exact kj4_3 (kj4_2 (kj4_1 (kj4_0 (kz BK107.out))))) hb); replace HB := Aside0.mk (ab_ (bq) hb); (try clear hb)))
      (try simp only [Act.put, lsa_, ls0_, ls1_])
      have H := HC17.out
      clear HC17
      by_cases c21 : t109 = true
      rotate_left
      ·replace c21 := Bool.eq_false_iff.mpr c21
       subst c21
       have H1 : (if x6_2.length < 2513169434916 then (av_.l0 k2 l0 l1 (x6_2 ++ [(⟨2, (⟨(aa_ l0 x24_2).f0, (⟨(aa_ l0 x24_2).f1.f0, (aa_ l0 x24_2).f1.f1, (aa_ l0 x24_2).f1.f2⟩ : S57)⟩ : S59)⟩ : S63)]) l0 (l0.length : Int) (wrap64 (x24_2 + 1))) else (none)) = some (r1, r2) := by rw [if_neg (show ¬ (false = true) by decide)] at H; exact H
       clear H
       have H := H1
       clear H1
       by_cases c22 : x6_2.length < 2513169434916
       rotate_left
       ·rw [if_neg c22] at H
        exact absurd H (by simp)
       rw [if_pos c22] at H
       have LMc22 := Aside0.mk c22
       clear c22
       obtain ⟨y110, hy110⟩ : ∃ y_ : List (S63), y_ = (x6_2 ++ [(⟨2, (⟨(aa_ l0 x24_2).f0, (⟨(aa_ l0 x24_2).f1.f0, (aa_ l0 x24_2).f1.f1, (aa_ l0 x24_2).f1.f2⟩ : S57)⟩ : S59)⟩ : S63)]) := ⟨_, rfl⟩
       replace H : (av_.l0 k2 l0 l1 y110 l0 (l0.length : Int) (wrap64 (x24_2 + 1))) = some (r1, r2) := by first | (rw [hy110]; with_reducible exact H) | (have H2_ := (Option.bind_some _ _).symm.trans H; rw [hy110]; with_reducible exact H2_) | (have H2_ := (Option.bind_some _ _).symm.trans H; with_reducible exact H2_) | with_reducible exact H | (rw [hy110]; exact H) | exact H
       have Ny110 := Aside0.mk hy110
       clear hy110
       have H' := Aside0.mk H
       clear H
       obtain ⟨hcz23_0, hcz23_1, hcz23_2, hcz23_3⟩ := cz4_ BK107.out
       obtain ⟨hfz23_0, hfz23_1, hfz23_2, hfz23_3⟩ := fz4_ BK107.out
       go_wp2_with (first | ((with_reducible refine bs_ (b := .append) (xs := #[.tmp 37, .tmp 40]) rfl ?_); at_builtin; refine Kd.cJ_ k63 (w0 := w) w.heap.size rfl (.tmp 37) (.tmp 40) 29 63 (.agg #[(.int .i64 0), (.string ⟨#[]⟩), (.string ⟨#[]⟩), (.int .i64 0), (.int .i64 0)]) 56 rfl Tryd.underlying29 info63 rfl (by decide) (by omega) u6 x6_2 (⟨2, (⟨(aa_ l0 x24_2).f0, (⟨(aa_ l0 x24_2).f1.f0, (aa_ l0 x24_2).f1.f1, (aa_ l0 x24_2).f1.f2⟩ : S57)⟩ : S59)⟩ : S63) [.int .i64 2, .string ((aa_ l0 x24_2).f0), .string ((aa_ l0 x24_2).f1.f0), .int .i64 ((aa_ l0 x24_2).f1.f1), .int .i64 ((aa_ l0 x24_2).f1.f2)] (fun _ => True) (fun _ => False) rfl rfl ?aP (fun _ hk => hk.elim) ?aF ?aO ?aB ?aS ?aL ?_; (case aP => exact k63_mkM _ _ _ (⟨2, (⟨(aa_ l0 x24_2).f0, (⟨(aa_ l0 x24_2).f1.f0, (aa_ l0 x24_2).f1.f1, (aa_ l0 x24_2).f1.f2⟩ : S57)⟩ : S59)⟩ : S63)); (case aB => exact (bq)); (case aF => exact (fun _ _ => trivial)); (case aO => exact (rz HO_6.out)); (case aS => exact (ag_ (bq))); (case aL => have := LMc22.out; omega); intro v111 w24 ho hb hg hat; rw [← Ny110.out] at ho; replace BK107 := Aside0.mk (ce_ (g := gb107) (o := .cells #[.string ((aa_ l0 x24_2).f0), .string ((aa_ l0 x24_2).f1.f0), .int .i64 ((aa_ l0 x24_2).f1.f1), .int .i64 ((aa_ l0 x24_2).f1.f2)] 59 (0, 0)) (kz BK107.out) hg (Kd.R_ne HO_6.out BK107.out (by decide))); replace HB := Aside0.mk (hb); have HO112 := Aside0.mk (ho); clear HO_6; clear ho hb hg hat))
       go_roundg k2
       case measure => have := HJ2.out; have := HK2.out; omega
       case rel => exact ⟨(y110), (wrap64 (x24_2 + 1)), (by first | rfl | (simp; done) | (simp [*]; done)), H', ⟨by have := HJ2.out; have := HK2.out; omega⟩, ⟨rz HO112.out⟩, ⟨bq⟩⟩
      subst c21
      have H1 : (av_.l0 k2 l0 l1 x6_2 l0 (l0.length : Int) (wrap64 (x24_2 + 1))) = some (r1, r2) := by rw [if_pos rfl] at H; exact H
      clear H
      have H := H1
      clear H1
      have H' := Aside0.mk H
      clear H
      go_wp2
      go_roundg k2
      case measure => have := HJ2.out; have := HK2.out; omega
      case rel => exact ⟨(x6_2), (wrap64 (x24_2 + 1)), (by first | rfl | (simp; done) | (simp [*]; done)), H', ⟨by have := HJ2.out; have := HK2.out; omega⟩, ⟨rz HO_6.out⟩, ⟨bq⟩⟩
   subst c10
   have H1 : (some (([] : List (S63)), 1)) = some (r1, r2) := by rw [if_pos rfl] at H; exact H
   clear H
   have H := H1
   clear H1
   simp only [Option.some.injEq, Prod.mk.injEq] at H
   obtain ⟨rfl, rfl⟩ := H
   go_wp2
   go_ret2
   exact ⟨_, by first | rfl | (simp [*, ap_, ao_] <;> rfl), by first | exact Kd.R_nil _ _ _ _ _ | exact Kd.N_nil _ _ _ _ _ | exact Kd.V_nil _ _ _ _ _ | exact Kd.Q_nil _ _ _ _ _ | exact Kd.S_nil _ _ _ _ _, bz HB.out⟩
end Go.Proofs.YtiheginanghhjaaDoor.Q
namespace Go.Proofs.YtiheginanghhjaaDoor.Q
open Go.RowKit Go.Proofs.YtiheginanghhjaaDoorW.PrintWords Go.Proofs.YtiheginanghhjaaDoorW.PrintLast Go.Proofs.YtiheginanghhjaaDoorW.PrintMore
attribute [local go_sem] aJ_ aI_ aW_ aX_ az_ aA_ aG_ aH_
theorem eqA59 (d : Nat) (w : World) (x0 y0 : ByteArray) (x1 y1 : ByteArray) (x2 y2 : Int) (x3 y3 : Int) :
  (Op.equalIn (d + 3) 59 (.agg #[.string x0, .string x1, .int .i64 x2, .int .i64 x3]) (.agg #[.string y0, .string y1, .int .i64 y2, .int .i64 y3])).run Tryd.prog w = .ok (x0.toList == y0.toList && ((x1.toList == y1.toList && (x2 == y2 && (x3 == y3))))) w := by
 refine eqA_of Tryd.underlying59 (by kernel_rfl) ?_
 refine eqf_cons (by rfl) (by go_simp; rfl) (by go_simp; rfl) (by go_simp) ?_
 exact eqf_last (by rfl) (by go_simp) (by go_simp) (eqA57 (d + 0) w _ _ _ _ _ _)
def cx_.f (k : Nat) (a0_0 : Int) (a0_1 : ByteArray) (a0_2 : ByteArray) (a0_3 : Int) (a0_4 : Int) : Option (Bool) := (aF_.f a0_0 1 2).bind fun t102 => (if t102 = true then ((bR_.f k a0_1 a0_2 a0_3 a0_4).bind fun t103 => (some (!t103))) else (some true))
set_option maxHeartbeats 8000000 in
set_option maxRecDepth 100000 in
theorem cx_.calls (k : Nat) (a0_0 : Int) (a0_1 : ByteArray) (a0_2 : ByteArray) (a0_3 : Int) (a0_4 : Int) (r : Bool) (w : World) (h : cx_.f k a0_0 a0_1 a0_2 a0_3 a0_4 = some r) :
  Calls Tryd.prog 28 #[.agg #[.int .i64 a0_0, .string a0_1, .string a0_2, .int .i64 a0_3, .int .i64 a0_4]] w fun e w' => e = .returned (.bool r) ∧ Below w.heap.size w w' := by
 have hu63 := Tryd.underlying63
 have hu59 := Tryd.underlying59
 have HB := Aside0.mk (Below.refl w.heap.size w)
 have H : ((aF_.f a0_0 1 2).bind fun t102 => (if t102 = true then ((bR_.f k a0_1 a0_2 a0_3 a0_4).bind fun t103 => (some (!t103))) else (some true))) = some r := h
 clear h
 replace H := Option.bind_eq_some_iff.mp H
 obtain ⟨t102, A20, H⟩ := H
 (try dsimp only at H)
 have A2 := Aside0.mk A20
 clear A20
 by_cases c3 : t102 = true
 rotate_left
 ·replace c3 := Bool.eq_false_iff.mpr c3
  subst c3
  have H1 : (some true) = some r := by rw [if_neg (show ¬ (false = true) by decide)] at H; exact H
  clear H
  have H := H1
  clear H1
  obtain rfl := Option.some.inj H
  go_enter Tryd.func28, Tryd.ntmps28
  go_wp2_with (first | ((with_reducible refine aL_ (N := 1) rfl ?_); refine bz_ ?hg (N := 1) ?hd (cs := #[.int .i64 a0_0, .string a0_1, .string a0_2, .int .i64 a0_3, .int .i64 a0_4]) (t := 63) ?hr ?_; (case hd => rfl); (case hg => rfl); (case hr => (go_simp; try rfl)); intro gb101 hg w8 hbox hb; have BK101 := Aside0.mk (hbox); have GW101 := Aside0.mk ((by rw [hg]; exact (ag_ (bz HB.out)) : w.heap.size ≤ gb101)); have GE101 := GW101; replace HB := Aside0.mk (ab_ (bz HB.out) hb); clear hb hbox hg; obtain ⟨hcz9_0, hcz9_1, hcz9_2, hcz9_3, hcz9_4⟩ := cz5_ BK101.out; obtain ⟨hfz9_0, hfz9_1, hfz9_2, hfz9_3, hfz9_4⟩ := fz5_ BK101.out) | ((with_reducible refine as_ (f := 29) rfl ?_); refine bw_ (some 5) rfl rfl Tryd.func29 (by kernel_rfl) rfl #[.int .i64 a0_0, .int .i64 1, .int .i64 2] rfl (by first | rfl | (simp only [lma_, lmc_, lmn_]; first | done | rfl)) ?_; (with_reducible refine (aF_.calls a0_0 1 2 false _ A2.out).mono ?_); rintro e w' ⟨rfl, ⟨nd, rfl⟩⟩; refine ⟨_, rfl, ?_⟩))
  go_ret
  exact ⟨by first | rfl | (simp [*, ap_, ao_] <;> rfl), bq⟩
 subst c3
 have H1 : ((bR_.f k a0_1 a0_2 a0_3 a0_4).bind fun t103 => (some (!t103))) = some r := by rw [if_pos rfl] at H; exact H
 clear H
 have H := H1
 clear H1
 replace H := Option.bind_eq_some_iff.mp H
 obtain ⟨t103, A40, H⟩ := H
 (try dsimp only at H)
 have A4 := Aside0.mk A40
 clear A40
 obtain rfl := Option.some.inj H
 go_enter Tryd.func28, Tryd.ntmps28
 go_wp2_with (first | ((with_reducible refine aL_ (N := 1) rfl ?_); refine bz_ ?hg (N := 1) ?hd (cs := #[.int .i64 a0_0, .string a0_1, .string a0_2, .int .i64 a0_3, .int .i64 a0_4]) (t := 63) ?hr ?_; (case hd => rfl); (case hg => rfl); (case hr => (go_simp; try rfl)); intro gb101 hg w5 hbox hb; have BK101 := Aside0.mk (hbox); have GW101 := Aside0.mk ((by rw [hg]; exact (ag_ (bz HB.out)) : w.heap.size ≤ gb101)); have GE101 := GW101; replace HB := Aside0.mk (ab_ (bz HB.out) hb); clear hb hbox hg; obtain ⟨hcz6_0, hcz6_1, hcz6_2, hcz6_3, hcz6_4⟩ := cz5_ BK101.out; obtain ⟨hfz6_0, hfz6_1, hfz6_2, hfz6_3, hfz6_4⟩ := fz5_ BK101.out) | ((with_reducible refine as_ (f := 29) rfl ?_); refine bw_ (some 5) rfl rfl Tryd.func29 (by kernel_rfl) rfl #[.int .i64 a0_0, .int .i64 1, .int .i64 2] rfl (by first | rfl | (simp only [lma_, lmc_, lmn_]; first | done | rfl)) ?_; (with_reducible refine (aF_.calls a0_0 1 2 true _ A2.out).mono ?_); rintro e w' ⟨rfl, ⟨nd, rfl⟩⟩; refine ⟨_, rfl, ?_⟩) | (go_at_call 30; (with_reducible refine (bR_.calls k a0_1 a0_2 a0_3 a0_4 t103 _ A4.out).mono ?_); rintro e w7 ⟨rfl, hb⟩; replace BK101 := Aside0.mk (aS_ (kz BK101.out) hb); replace HB := Aside0.mk (ab_ (bq) hb); (try clear hb)))
 go_ret
 exact ⟨by first | rfl | (simp [*, ap_, ao_] <;> rfl), bq⟩
def bI_.l0 : Nat → List (S63) → Int → Int → Option (Int)
 | 0, _, _, _ => none
 | k + 1, x0, x7, x8 => if x8 < x7 then (if 0 ≤ x8 then (if x8 < (x0.length : Int) then ((cx_.f k ((ak_ x0 x8).f0) ((ak_ x0 x8).f1.f0) ((ak_ x0 x8).f1.f1.f0) ((ak_ x0 x8).f1.f1.f1) ((ak_ x0 x8).f1.f1.f2)).bind fun t102 => (if t102 = true then (some x8) else (bI_.l0 k x0 x7 (wrap64 (x8 + 1))))) else (none)) else (none)) else (some (-1))
def bI_.f (k : Nat) (l0 : List (S63))  : Option (Int) := bI_.l0 k l0 (l0.length : Int) 0
set_option maxHeartbeats 8000000 in
set_option maxRecDepth 100000 in
theorem bI_.calls (k : Nat) (A0 : Option Addr) (c0 : Nat) (l0 : List (S63))  (r : Int) (w : World) (hr0 : Kd.C k63 w A0 l0.length l0) (hc0 : l0.length ≤ c0) (h : bI_.f k l0 = some r) :
  Calls Tryd.prog 55 #[.slice A0 l0.length c0, .func (.func 28) #[] #[]] w fun e w' => e = .returned (.int .i64 r) ∧ Below w.heap.size w w' := by
 have hu63 := Tryd.underlying63
 have HR0 := Aside0.mk hr0
 have HC0 := Aside0.mk hc0
 clear hr0 hc0
 have HB := Aside0.mk (Below.refl w.heap.size w)
 have H : (bI_.l0 k l0 (l0.length : Int) 0) = some r := h
 clear h
 have H' := Aside0.mk H
 clear H
 go_enter Tryd.func55, Tryd.ntmps55
 go_wp2
 (try simp only [Act.put, lsa_, ls0_, ls1_])
 go_loopg [8] k (fun kq v8 w' => ∃ (x8_1 : Int), v8 = .int .i64 x8_1 ∧ Aside0 (bI_.l0 kq l0 (l0.length : Int) x8_1 = some r) ∧ Aside0 (kq ≤ k) ∧ Aside0 (Below w.heap.size w w'))
 case atStart => exact ⟨(0), (by first | rfl | (simp; done) | (simp [*]; done)), H', ⟨Nat.le_refl _⟩, ⟨bz HB.out⟩⟩
 case round =>
  clear H'
  obtain ⟨x8_1, rfl, HA, HK1, HB⟩ := hrel
  cases gk with
  | zero => exact absurd HA.out (by simp [bI_.l0])
  | succ k1 =>
   have H := HA.out
   clear HA
   simp only [bI_.l0] at H
   by_cases c3 : x8_1 < (l0.length : Int)
   rotate_left
   ·rw [if_neg c3] at H
    have c3b0 : decide (x8_1 < (l0.length : Int)) = false := decide_eq_false c3
    clear c3
    obtain rfl := Option.some.inj H
    go_wp2
    go_ret
    exact ⟨by first | rfl | (simp [*, ap_, ao_] <;> rfl), bz HB.out⟩
   rw [if_pos c3] at H
   have c3b0 : decide (x8_1 < (l0.length : Int)) = true := decide_eq_true c3
   clear c3
   by_cases c4 : 0 ≤ x8_1
   rotate_left
   ·rw [if_neg c4] at H
    exact absurd H (by simp)
   rw [if_pos c4] at H
   have c4b0 : decide (0 ≤ x8_1) = true := decide_eq_true c4
   clear c4
   by_cases c5 : x8_1 < (l0.length : Int)
   rotate_left
   ·rw [if_neg c5] at H
    exact absurd H (by simp)
   rw [if_pos c5] at H
   have c5b0 : decide (x8_1 < (l0.length : Int)) = true := decide_eq_true c5
   clear c5
   replace H := Option.bind_eq_some_iff.mp H
   obtain ⟨t102, A60, H⟩ := H
   (try dsimp only at H)
   have A6 := Aside0.mk A60
   clear A60
   have HC7 := Aside0.mk H
   clear H
   have p101 : 0 ≤ (x8_1 : Int) := of_decide_eq_true (by assumption)
   have q101 : x8_1 < (l0.length : Int) := of_decide_eq_true (by assumption)
   obtain ⟨ad101, e101, hx101_0, hx101_1, hx101_2, hx101_3, hx101_4⟩ := at_T63 HR0.out x8_1 p101 q101
   cases e101
   replace hx101_0 := bu_ HB.out hx101_0
   replace hx101_1 := bu_ HB.out hx101_1
   replace hx101_2 := bu_ HB.out hx101_2
   replace hx101_3 := bu_ HB.out hx101_3
   replace hx101_4 := bu_ HB.out hx101_4
   replace p101 := eq_true p101
   replace q101 := eq_true q101
   go_upto_if 16 with (first | (go_at_call 28; (with_reducible refine (cx_.calls k1 ((ak_ l0 x8_1).f0) ((ak_ l0 x8_1).f1.f0) ((ak_ l0 x8_1).f1.f1.f0) ((ak_ l0 x8_1).f1.f1.f1) ((ak_ l0 x8_1).f1.f1.f2) t102 _ A6.out).mono ?_); rintro e w8 ⟨rfl, hb⟩; replace HB := Aside0.mk (ab_ (bz HB.out) hb); (try clear hb)))
   (try simp only [Act.put, lsa_, ls0_, ls1_])
   have H := HC7.out
   clear HC7
   by_cases c9 : t102 = true
   rotate_left
   ·replace c9 := Bool.eq_false_iff.mpr c9
    subst c9
    have H1 : (bI_.l0 k1 l0 (l0.length : Int) (wrap64 (x8_1 + 1))) = some r := by rw [if_neg (show ¬ (false = true) by decide)] at H; exact H
    clear H
    have H := H1
    clear H1
    have H' := Aside0.mk H
    clear H
    go_wp2
    go_roundg k1
    case measure => have := HK1.out; omega
    case rel => exact ⟨(wrap64 (x8_1 + 1)), (by first | rfl | (simp; done) | (simp [*]; done)), H', ⟨by have := HK1.out; omega⟩, ⟨bz HB.out⟩⟩
   subst c9
   have H1 : (some x8_1) = some r := by rw [if_pos rfl] at H; exact H
   clear H
   have H := H1
   clear H1
   obtain rfl := Option.some.inj H
   go_wp2
   go_ret
   exact ⟨by first | rfl | (simp [*, ap_, ao_] <;> rfl), bz HB.out⟩
def cp_.f (k : Nat) (l0 : List (S63))  : Option (Bool) := (bI_.f k l0).bind fun t101 => (some (decide (t101 ≥ 0)))
set_option maxHeartbeats 8000000 in
set_option maxRecDepth 100000 in
theorem cp_.calls (k : Nat) (A0 : Option Addr) (c0 : Nat) (l0 : List (S63))  (r : Bool) (w : World) (hr0 : Kd.C k63 w A0 l0.length l0) (hc0 : l0.length ≤ c0) (h : cp_.f k l0 = some r) :
  Calls Tryd.prog 27 #[.slice A0 l0.length c0, .func (.func 28) #[] #[]] w fun e w' => e = .returned (.bool r) ∧ Below w.heap.size w w' := by
 have HR0 := Aside0.mk hr0
 have HC0 := Aside0.mk hc0
 clear hr0 hc0
 have HB := Aside0.mk (Below.refl w.heap.size w)
 have H : ((bI_.f k l0).bind fun t101 => (some (decide (t101 ≥ 0)))) = some r := h
 clear h
 replace H := Option.bind_eq_some_iff.mp H
 obtain ⟨t101, A30, H⟩ := H
 (try dsimp only at H)
 have A3 := Aside0.mk A30
 clear A30
 obtain rfl := Option.some.inj H
 go_enter Tryd.func27, Tryd.ntmps27
 go_wp2_with (first | ((with_reducible refine as_ (f := 55) rfl ?_); refine bw_ (some 7) rfl rfl Tryd.func55 (by kernel_rfl) rfl #[.slice A0 l0.length c0, .func (.func 28) #[] #[]] rfl (by first | rfl | (simp only [lma_, lmc_, lmn_]; first | done | rfl)) ?_; (with_reducible refine (bI_.calls k _ _ l0  t101 _ ?side1 ?side2 A3.out).mono ?_); (case side1 => exact cz HR0.out); (case side2 => exact HC0.out); rintro e w4 ⟨rfl, hb⟩; refine ⟨_, rfl, ?_⟩; replace HB := Aside0.mk (ab_ (bz HB.out) hb); (try clear hb)))
 go_ret
 exact ⟨by first | rfl | (simp [*, ap_, ao_] <;> rfl), bz HB.out⟩
def cj_.f (l0 : List S59) : Option (List S59) := if l0.length < 2932031007402 then some l0 else none
set_option maxHeartbeats 8000000 in
set_option maxRecDepth 100000 in
theorem cj_.calls (A0 : Option Addr) (c0 : Nat) (l0 : List S59) (r : List S59) (w : World) (hr0 : Kd.C k59 w A0 l0.length l0) (hc0 : l0.length ≤ c0) (h : cj_.f l0 = some r) :
  Calls Tryd.prog 31 #[.slice A0 l0.length c0] w fun e w' => ∃ v0_ : Value, e = .returned (v0_) ∧ Kd.R k59 59 w' w.heap.size (fun _ => True) v0_ r ∧ Below w.heap.size w w' := by
 have q22 : ∀ (w : World) (a : Option Addr) (n c n' c' : Nat), (binOp .eql 26 (.slice a n c) (.slice none n' c')).run Tryd.prog w = .ok (.bool a.isNone) w := fun w a n c n' c' => Lib.run_eql_slice_nil w _ _ a n c n' c' Tryd.underlying26
 unfold cj_.f at h
 split at h
 ·rename_i hl
  obtain rfl := Option.some.inj h
  have hl' := Aside0.mk hl
  clear hl h
  rcases A0 with _ | ⟨ab, ao, asp⟩
  ·have h0 : l0 = [] := by
    rcases l0 with _ | ⟨x, l⟩
    ·rfl
    ·obtain ⟨ad, h, _⟩ := hr0.2.2 (by simp)
     cases h
   subst h0
   go_enter Tryd.func31, Tryd.ntmps31
   go_wp2
   go_ret
   exact ⟨_, rfl, Kd.R_nil _ _ _ _ _, Below.refl _ _⟩
  ·have HR0 := Aside0.mk hr0
   clear hr0
   go_enter Tryd.func31, Tryd.ntmps31
   go_wp2_with (first | ((with_reducible refine aL_ (N := 5) rfl ?_); refine Kd.R_lit k59 _ 59 ?hg (N := 5) ?hd (xs := ([] : List S59)) (inner := []) (ok := fun _ => True) (okp := fun _ => True) ?hr ?hp (fun _ hk => hk) trivial (Below.refl _ _) (Nat.le_refl _) (by simp) ?_; (case hd => rfl); (case hg => rfl); (case hr => (go_simp; try rfl)); (case hp => exact (Reps.none _ _)); intro v1 w1 ho1 hb1 _ _; have HB1 := Aside0.mk hb1; have HO1 := Aside0.mk ho1; clear hb1 ho1) | ((with_reducible refine bs_ (b := .append) (xs := #[.tmp 5, .tmp 6]) rfl ?_); at_builtin; refine Kd.dj_ k59 (w0 := w) w.heap.size rfl (.tmp 5) (.tmp 6) 26 59 (.agg #[(.string ⟨#[]⟩), (.string ⟨#[]⟩), (.int .i64 0), (.int .i64 0)]) 48 rfl Tryd.underlying26 dm_ rfl (by decide) (by omega) v1 [] l0 _ _ _ (fun _ => True) (fun _ => False) rfl rfl HO1.out (Kd.bk_ HR0.out HB1.out) (fun _ _ h => h) (fun _ h => h.elim) (fun _ _ => trivial) HB1.out HB1.out.size (by have := hl'.out; simp only [List.length_nil]; omega) ?_; intro v2 w2 ho2 hb2 _ _; have HO2 := Aside0.mk ho2; have HB2 := Aside0.mk hb2; clear ho2 hb2))
   go_ret
   exact ⟨_, rfl, by simpa using HO2.out, HB2.out⟩
 ·cases h
end Go.Proofs.YtiheginanghhjaaDoor.Q
namespace Go.Proofs.YtiheginanghhjaaDoor.SLX
open Go.RowKit Go.Proofs.YtiheginanghhjaaDoorW.PrintWords Go.Proofs.YtiheginanghhjaaDoorW.PrintLast Go.Proofs.YtiheginanghhjaaDoorW.PrintMore
section
variable {P : Program} {α : Type}
def Flat (d : Kd α) : Prop := (∀ (W W' : World) (b b' : Nat) (ok ok' : Nat → Prop) x cs, d.M W b ok x cs → d.M W' b' ok' x cs) ∧ (∀ (W : World) (b : Nat) (ok : Nat → Prop) x cs, d.K W x cs → d.M W b ok x cs)
theorem R_open {d : Kd α} {e : Nat} {W : World} {base : Nat} {ok : Nat → Prop} {v : Value} {xs : List α} (h : d.R e W base ok v xs) :
  (v = .slice none 0 0 ∧ xs = []) ∨ ∃ g c cur okk, v = .slice (some ⟨g, 0, none⟩) xs.length c ∧ ok g ∧ base ≤ g ∧ W.heap[g]? = some (.cells cur e (0, 0)) ∧ xs.length ≤ c ∧ c ≤ maxLen ∧ cur.size = c * d.sz ∧ Reps (d.M W base okk) d.sz xs (cur.toList.take (xs.length * d.sz)) := by
 obtain ⟨hok, inner, hown, hr⟩ := h
 rcases hown.2 with ⟨hv, h0⟩ | ⟨g, cap, cur, rfl, hb, hh, h1, h2, h3, h4⟩
 ·exact .inl ⟨hv, List.eq_nil_of_length_eq_zero h0⟩
 ·exact .inr ⟨g, cap, cur, _, rfl, hok g (by simp [Value.ownBlock]), hb, hh, h1, h2, h3, by rw [h4]; exact hr⟩
theorem R_shut {d : Kd α} {e : Nat} {W : World} {base g c n : Nat} {ok : Nat → Prop} {xs : List α} {cur : Array Value} (hok : ok g) (hb : base ≤ g) (hh : W.heap[g]? = some (.cells cur e (0, 0))) (hn : n = xs.length) (h1 : n ≤ c) (h2 : c ≤ maxLen) (h3 : cur.size = c * d.sz)
  (hr : Reps (d.M W base (fun k => ok k ∧ some k ≠ (Value.slice (some ⟨g, 0, none⟩) n c).ownBlock)) d.sz xs (cur.toList.take (n * d.sz))) : d.R e W base ok (.slice (some ⟨g, 0, none⟩) n c) xs := by
 subst hn
 refine ⟨fun k hk => ?_, cur.toList.take (xs.length * d.sz), ⟨hr.1, .inr ⟨g, c, cur, rfl, hb, hh, h1, h2, h3, rfl⟩⟩, hr⟩
 have : g = k := by simpa [Value.ownBlock] using hk
 subst this
 exact hok
theorem reps_imp {R R' : α → List Value → Prop} {size : Nat} {xs : List α} {cs : List Value} (h : Reps R size xs cs) (hi : ∀ x c, R x c → R' x c) : Reps R' size xs cs := ⟨h.1, fun j p hj => hi _ _ (h.2 j p hj)⟩
theorem run_copy_k (w : World) (dT sT ty elem : TypeId) (sz g o dLen dCap : Nat) (a : Addr) (sLen sCap : Nat) (cur : Array Value) (t : TypeId) (cs : List Value)
  (hu : P.underlying dT = some (.slice elem)) (hs : (P.info? elem).map (·.size) = some sz)
  (hg : w.heap[g]? = some (.cells cur t (0, 0))) (hn : cs.length = Nat.min sLen dLen * sz)
  (hsrc : ∀ j v, cs[j]? = some v → w.cell? (a.add j) = some v) (hfit : o + cs.length ≤ cur.size) (h1 : ∀ v ∈ cs, v.oneCell' = true) :
  (Builtin.copy_ #[dT, sT] ty #[.slice (some ⟨g, o, none⟩) dLen dCap, .slice (some a) sLen sCap]).run P w =
   .ok (goInt (Nat.min sLen dLen)) (w.setRow g (cur.toList.take o ++ cs ++ cur.toList.drop (o + cs.length)).toArray) := by
 have hl := run_loadCells_list (P := P) w a cs hsrc
 have hst := run_storeCells_at P g o t cs 0 cur w hg (by simpa using hfit) h1
 cases hq : P.info? elem with
 | none => simp [hq] at hs
 | some i =>
  have hi : i.size = sz := by simpa [hq] using hs
  simp [Builtin.copy_, run_underlying hu, Builtin.lenOf, Builtin.firstCells, sizeOf, typeInfo, hq, hi, ← hn, hl, hst]
theorem zeroCells_size (z : Array Value) (n : Nat) : (Builtin.zeroCells z n).size = n * z.size := by simp [Builtin.zeroCells]
theorem zeroCells_one (z : Array Value) : (Builtin.zeroCells z 1).toList = z.toList := by
 unfold Builtin.zeroCells
 apply List.ext_getElem
 ·simp
 ·intro i h1 h2
  simp at h1 h2
  simp [Nat.mod_eq_of_lt h2, h2]
theorem run_clear_k (w : World) (t e ty : TypeId) (z : Value) (ht : P.underlying t = some (.slice e)) (hv : ∀ w, (zeroValue e).run P w = .ok z w) (h1 : ∀ v ∈ z.cells.toList, v.oneCell' = true) (g o c : Nat) (cur : Array Value) (hg : w.heap[g]? = some (.cells cur e (0, 0))) (hfit : o + z.cells.size ≤ cur.size) :
  (Builtin.clear_ #[t] ty #[.slice (some ⟨g, o, none⟩) 1 c]).run P w = .ok (.tuple #[]) (w.setRow g (cur.toList.take o ++ z.cells.toList ++ cur.toList.drop (o + z.cells.size)).toArray) := by
 have hst := run_storeCells_at P g o e z.cells.toList 0 cur w hg (by simpa using hfit) h1
 simp only [Nat.add_zero, Array.length_toList] at hst
 simp [Builtin.clear_, run_underlying ht, hv, zeroCells_one, hst]
theorem dE_ (W : World) (g : Nat) (cs : Array Value) : W.grownBy (W.setRow g cs) (some g) :=
 ⟨rfl, rfl, rfl, by simp [World.setRow], fun k _ hk => setRow_other W g k cs (fun he => hk (by rw [he]))⟩
theorem kept_of_grown {w w' : World} {g : Nat} {S : Nat → Prop} (h : w.grownBy w' (some g)) (hg : S g) : Kept w w' S :=
 ⟨h.size, fun i hi hn => h.block i hi (fun he => hn (by injection he with he; rw [he]; exact hg))⟩
end
section
variable {P : Program} {ops : Array Oper} {o : Oper} {a : Act} {w : World} {K : Act → World → Prop} {Q : Exit → Act → World → Prop}
theorem dF_ {E : Prop} (hg : o.guard = none) (s x : Operand) (t : TypeId) (hop : o.op = Op.call { callee := Callee.builtin Builtin.append, args := #[s, x], argTypes := #[t, t] })
  (v u : Value) (hs : a.eval s = v) (hx : a.eval x = u) {v' : Value} {w' : World} (hr : (Builtin.append_ #[t, t] o.type #[v, u]).run P w = .ok v' w') (hK : K (a.put o.dst v') w') :
  if Region.wanted o (yielded ops a.tmps) = true then Oper.wp P o a w K Q else E := by
 have hw : Region.wanted o (yielded ops a.tmps) = true := by simp [Region.wanted, hg]
 rw [if_pos hw]
 unfold Oper.wp
 simp [execOp, hop, resolve, invoke, builtin, hs, hx, hr, Result.andThen]
 exact hK
theorem step_copy_runS {E : Prop} (hg : o.guard = none) (d x : Operand) (dT sT : TypeId) (hop : o.op = Op.call { callee := Callee.builtin Builtin.copy, args := #[d, x], argTypes := #[dT, sT] })
  (v u : Value) (hd : a.eval d = v) (hx : a.eval x = u) {v' : Value} {w' : World} (hr : (Builtin.copy_ #[dT, sT] o.type #[v, u]).run P w = .ok v' w') (hK : K (a.put o.dst v') w') :
  if Region.wanted o (yielded ops a.tmps) = true then Oper.wp P o a w K Q else E := by
 have hw : Region.wanted o (yielded ops a.tmps) = true := by simp [Region.wanted, hg]
 rw [if_pos hw]
 unfold Oper.wp
 simp [execOp, hop, resolve, invoke, builtin, hd, hx, hr, Result.andThen]
 exact hK
theorem list_copy_runS {rest : List Oper} (hg : o.guard = none) (d x : Operand) (dT sT : TypeId) (hop : o.op = Op.call { callee := Callee.builtin Builtin.copy, args := #[d, x], argTypes := #[dT, sT] })
  (v u : Value) (hd : a.eval d = v) (hx : a.eval x = u) {v' : Value} {w' : World} (hr : (Builtin.copy_ #[dT, sT] o.type #[v, u]).run P w = .ok v' w') (h : wpList P ops Q rest (a.put o.dst v') w') : wpList P ops Q (o :: rest) a w :=
 wpList_plain hg fun _ hK => by
  unfold Oper.wp execOp
  simp only [hop, resolve, invoke, builtin, Sem.run_bind, Sem.run_pure, Result.andThen_ok, List.map_toArray, List.map_cons, List.map_nil, hd, hx, hr]
  exact hK _ _ h
theorem list_append_runS {rest : List Oper} (hg : o.guard = none) (d x : Operand) (dT sT : TypeId) (hop : o.op = Op.call { callee := Callee.builtin Builtin.append, args := #[d, x], argTypes := #[dT, sT] })
  (v u : Value) (hd : a.eval d = v) (hx : a.eval x = u) {v' : Value} {w' : World} (hr : (Builtin.append_ #[dT, sT] o.type #[v, u]).run P w = .ok v' w') (h : wpList P ops Q rest (a.put o.dst v') w') : wpList P ops Q (o :: rest) a w :=
 wpList_plain hg fun _ hK => by
  unfold Oper.wp execOp
  simp only [hop, resolve, invoke, builtin, Sem.run_bind, Sem.run_pure, Result.andThen_ok, List.map_toArray, List.map_cons, List.map_nil, hd, hx, hr]
  exact hK _ _ h
end
theorem R_spare {α : Type} {d : Kd α} (hF : Flat d) {e : Nat} {W : World} {base g n c : Nat} {ok : Nat → Prop} {xs : List α} {cur : Array Value} (HO : d.R e W base ok (.slice (some ⟨g, 0, none⟩) n c) xs) (hh : W.heap[g]? = some (.cells cur e (0, 0)))
  (z : List Value) (o : Nat) (ho : n * d.sz ≤ o) (hfit : o + z.length ≤ cur.size) : d.R e (W.setRow g (cur.toList.take o ++ z ++ cur.toList.drop (o + z.length)).toArray) base ok (.slice (some ⟨g, 0, none⟩) n c) xs := by
 rcases R_open HO with ⟨hx, _⟩ | ⟨g', c', cur', okk, hx, h0, h1, h2, h3, h4, h5, h6⟩
 ·cases hx
 injection hx with hx1 hx2 hx3
 injection hx1 with hx1
 injection hx1 with hx1
 subst hx1; subst hx2; subst hx3
 obtain rfl : cur' = cur := by
  rw [hh] at h2
  injection h2 with h2
  injection h2 with h2
  exact h2.symm
 refine R_shut h0 h1 (setRow_heap W _ cur' _ e (0, 0) hh) rfl h3 h4 ?_ ?_
 ·rw [← h5]; simp; omega
 ·have : (cur'.toList.take o ++ z ++ cur'.toList.drop (o + z.length)).toArray.toList.take (xs.length * d.sz) = cur'.toList.take (xs.length * d.sz) := by
   simp only [List.toList_toArray]
   rw [List.append_assoc, List.take_append_of_le_length (by simp; omega), List.take_take, Nat.min_eq_left ho]
  rw [this]
  exact reps_imp h6 (fun x cs h => hF.1 _ _ _ _ _ _ _ _ h)
theorem ins_list {β : Type} (L cx D : List β) (p : Nat) (hl : p + cx.length + D.length ≤ L.length) :
  ((L.take p ++ cx ++ L.drop (p + cx.length)).take (p + cx.length) ++ D ++ (L.take p ++ cx ++ L.drop (p + cx.length)).drop (p + cx.length + D.length)).take (p + cx.length + D.length) = L.take p ++ cx ++ D ∧
  ((L.take p ++ cx ++ L.drop (p + cx.length)).take (p + cx.length) ++ D ++ (L.take p ++ cx ++ L.drop (p + cx.length)).drop (p + cx.length + D.length)).length = L.length := by
 have h1 : (L.take p ++ cx).length = p + cx.length := by simp; omega
 have h2 : (L.take p ++ cx ++ L.drop (p + cx.length)).take (p + cx.length) = L.take p ++ cx := List.take_left' h1
 rw [h2]
 constructor
 ·exact List.take_left' (by simp; omega)
 ·simp; omega
theorem shift_list {β : Type} (L cx D : List β) (p : Nat) (hl : p + cx.length + D.length ≤ L.length) :
  ((L.take (p + cx.length) ++ D ++ L.drop (p + cx.length + D.length)).take p ++ cx ++ (L.take (p + cx.length) ++ D ++ L.drop (p + cx.length + D.length)).drop (p + cx.length)).take (p + cx.length + D.length) = L.take p ++ cx ++ D ∧
  ((L.take (p + cx.length) ++ D ++ L.drop (p + cx.length + D.length)).take p ++ cx ++ (L.take (p + cx.length) ++ D ++ L.drop (p + cx.length + D.length)).drop (p + cx.length)).length = L.length := by
 have h1 : (L.take (p + cx.length)).length = p + cx.length := by simp; omega
 have h2 : (L.take (p + cx.length) ++ D ++ L.drop (p + cx.length + D.length)).drop (p + cx.length) = D ++ L.drop (p + cx.length + D.length) := by
  rw [List.append_assoc]; exact List.drop_left' h1
 have h3 : (L.take (p + cx.length) ++ D ++ L.drop (p + cx.length + D.length)).take p = L.take p := by
  rw [List.append_assoc, List.take_append_of_le_length (by omega), List.take_take, Nat.min_eq_left (by omega)]
 rw [h2, h3]
 constructor
 ·rw [← List.append_assoc]; exact List.take_left' (by simp; omega)
 ·simp; omega
theorem kept_of_grown' {w w' : World} {row : Option Nat} {S : Nat → Prop} (h : w.grownBy w' row) (hg : ∀ k, row = some k → S k) : Kept w w' S :=
 ⟨h.size, fun i hi hn => h.block i hi (fun he => hn (hg i he.symm))⟩
end Go.Proofs.YtiheginanghhjaaDoor.SLX
namespace Go.Proofs.YtiheginanghhjaaDoor.Q
open Go.RowKit Go.Proofs.YtiheginanghhjaaDoorW.PrintWords Go.Proofs.YtiheginanghhjaaDoorW.PrintLast Go.Proofs.YtiheginanghhjaaDoorW.PrintMore
attribute [local go_sem] aJ_ aI_ aW_ aX_ az_ aA_ aG_ aH_
def cA_.f (l0 : List S59) (a1 : Int) (l2 : List S59) : Option (List S59) := match l2 with
 | [x] => if 0 ≤ a1 ∧ a1 ≤ (l0.length : Int) ∧ l0.length + 1 < 2932031007402 then some (l0.take a1.toNat ++ [x] ++ l0.drop a1.toNat) else none
 | _ => none
set_option maxHeartbeats 2000000 in
set_option maxRecDepth 100000 in
theorem cA_.calls (P0_ : Nat → Prop) (u9000_ : Value) (l0 : List S59) (a1 : Int) (P2_ : Nat → Prop) (u9001_ : Value) (l2 : List S59) (r : List S59) (w0 w : World) (hB : Below w0.heap.size w0 w) (ho0 : Kd.R k59 59 w w0.heap.size P0_ u9000_ l0) (hp0_2 : ∀ k_, P0_ k_ → ¬ P2_ k_) (ho2 : Kd.R k59 59 w w0.heap.size P2_ u9001_ l2) (hp2_0 : ∀ k_, P2_ k_ → ¬ P0_ k_) (h : cA_.f l0 a1 l2 = some r) :
  Calls Tryd.prog 32 #[u9000_, .int .i64 a1, u9001_] w fun e w' => ∃ v0_ : Value, e = .returned (v0_) ∧ Kd.R k59 59 w' w0.heap.size (fun k_ => ((P0_ k_ ∨ P2_ k_) ∨ w.heap.size ≤ k_)) v0_ r ∧ Below w0.heap.size w0 w' ∧ Kept w w' (fun k_ => P0_ k_ ∨ P2_ k_) := by
 unfold cA_.f at h
 split at h
 case h_2 => cases h
 rename_i x
 split at h
 case isFalse => cases h
 rename_i hc
 obtain ⟨h0, h1, hlim⟩ := hc
 obtain rfl := Option.some.inj h
 obtain ⟨i, rfl⟩ := Int.eq_ofNat_of_zero_le h0
 rw [Int.toNat_natCast]
 have hF : SLX.Flat k59 := ⟨fun _ _ _ _ _ _ _ _ h => h, fun _ _ _ _ _ h => h⟩
 have hsz : maxLen = 9223372036854775807 := by decide
 rcases SLX.R_open ho2 with ⟨_, hx⟩ | ⟨g2, c2, cur2, okk2, rfl, hok2, hbg2, hh2, hnc2, hcm2, hcs2, hrep2⟩
 ·cases hx
 have hl1 : ([x] : List S59).length = 1 := rfl
 rw [hl1] at hnc2 hrep2 ho2 ⊢
 obtain ⟨i0, hi0, hz0, hzs, hzb⟩ := info_parts dm_
 have hC2 := (Kd.aj_ ho2).2.2
 rw [hl1] at hC2
 have hRow : Reps (Kd.M k59 w w0.heap.size okk2) 4 [x] (cur2.toList.take 4) := by
  have h := hrep2
  rw [Nat.one_mul] at h
  exact h
 obtain ⟨cx, hcx⟩ : ∃ cx, cx = cur2.toList.take 4 := ⟨_, rfl⟩
 rw [← hcx] at hRow
 have hcxl : cx.length = 4 := by simpa using hRow.1
 have hcx1 : ∀ v ∈ cx, v.oneCell' = true := by
  have := hRow.2 0 x rfl
  have h2 : (cx.drop (0 * 4)).take 4 = cx := by rw [Nat.zero_mul, List.drop_zero]; exact List.take_of_length_le (by omega)
  rw [h2] at this
  exact Kd.K_one k59 (Kd.K_of_M k59 this)
 have hcxc : ∀ (W : World), W.heap[g2]? = some (.cells cur2 59 (0, 0)) → ∀ j v, cx[j]? = some v → W.cell? ((⟨g2, 0, none⟩ : Addr).add j) = some v := by
  intro W hW j v hj
  rw [add_plain, cell_of_row W g2 _ cur2 59 (0, 0) hW, ← Array.getElem?_toList]
  rw [hcx, List.getElem?_take] at hj
  split at hj
  ·exact hj
  ·cases hj
 by_cases hend : i = l0.length
 ·
  subst hend
  rw [List.take_length, List.drop_length, List.append_nil]
  have HOm : Kd.R k59 59 w w0.heap.size (fun k_ => ((P0_ k_ ∨ P2_ k_) ∨ w.heap.size ≤ k_)) u9000_ l0 := Kd.aT_ ho0 (fun _ hk => .inl (.inl hk))
  have HKS : ∀ k, u9000_.ownBlock = some k → P0_ k := ho0.1
  obtain ⟨A0, c0, rfl, hc0, _⟩ := Kd.R_reads ho0
  have HO := Aside0.mk HOm
  have HB := Aside0.mk hB
  have HC := Aside0.mk hC2
  have HL := Aside0.mk hlim
  have HS := Aside0.mk HKS
  clear ho0 HOm hB hC2 hlim hcx1 hcxc hRow hrep2 h h1 h0 hp0_2 hp2_0 HKS
  go_enter Tryd.func32, Tryd.ntmps32
  go_wp2_with ((with_reducible refine bs_ (b := .append) (xs := #[.tmp 23, .tmp 24]) rfl ?_); at_builtin; refine Kd.dj_ k59 (w0 := w0) w0.heap.size rfl (.tmp 23) (.tmp 24) 26 59 (.agg #[(.string ⟨#[]⟩), (.string ⟨#[]⟩), (.int .i64 0), (.int .i64 0)]) 48 rfl Tryd.underlying26 dm_ rfl (by decide) (by omega) _ l0 [x] _ _ _ (fun k_ => ((P0_ k_ ∨ P2_ k_) ∨ w.heap.size ≤ k_)) (fun _ => False) rfl rfl HO.out HC.out (fun _ _ h => h) (fun _ h => h.elim) (fun _ hk => .inr hk) HB.out HB.out.size (by have := HL.out; omega) ?_; intro v1 w1 ho1 hb1 hg1 _; have HO1 := Aside0.mk ho1; have HB1 := Aside0.mk hb1; have HK1 := Aside0.mk (SLX.kept_of_grown' (S := fun k_ => P0_ k_ ∨ P2_ k_) hg1 (fun k hk => .inl (HS.out k hk))); clear ho1 hb1 hg1)
  all_goals
   go_ret
   exact ⟨_, rfl, HO1.out, HB1.out, HK1.out⟩
 ·
  rcases SLX.R_open ho0 with ⟨_, rfl⟩ | ⟨g, c, cur, okk, rfl, hok, hbg, hh, hnc, hcm, hcs, hrep⟩
  ·simp at h1 hend; omega
  obtain ⟨n, hn⟩ : ∃ n, n = l0.length := ⟨_, rfl⟩
  have hi : i < n := by omega
  have hgg : g ≠ g2 := fun e => hp0_2 g hok (e ▸ hok2)
  obtain ⟨CS, hCS⟩ : ∃ CS, CS = cur.toList.take (l0.length * 4) := ⟨_, rfl⟩
  have hrepC : Reps (Kd.M k59 w w0.heap.size okk) 4 l0 CS := by rw [hCS]; exact hrep
  have hCSl : CS.length = n * 4 := by rw [hrepC.1, hn]
  have hcsz : cur.size = c * 4 := hcs
  have hnc3 : n * 4 ≤ c * 4 := Nat.mul_le_mul_right _ (by omega)
  have hin3 : i * 4 + 4 ≤ n * 4 := by have := Nat.mul_le_mul_right 4 (show i + 1 ≤ n by omega); rw [Nat.add_mul, Nat.one_mul] at this; exact this
  have hCS1 : ∀ v ∈ CS, v.oneCell' = true := by
   intro v hv
   obtain ⟨q, hq, rfl⟩ := List.mem_iff_getElem.1 hv
   have hql : q / 4 < l0.length := by omega
   refine Kd.K_one k59 (Kd.K_of_M k59 (hrepC.2 (q / 4) _ (List.getElem?_eq_getElem hql))) _ ?_
   rw [List.mem_iff_getElem?]
   refine ⟨q % 4, ?_⟩
   rw [List.getElem?_take, if_pos (by omega), List.getElem?_drop, show q / 4 * 4 + q % 4 = q by omega, List.getElem?_eq_getElem hq]
  have hCSc : ∀ (W : World), W.heap[g]? = some (.cells cur 59 (0, 0)) → ∀ p j v, (CS.drop p)[j]? = some v → W.cell? ((⟨g, p, none⟩ : Addr).add j) = some v := by
   intro W hW p j v hj
   rw [Addr.add_lit, cell_of_row W g _ cur 59 (0, 0) hW, ← Array.getElem?_toList]
   rw [List.getElem?_drop, hCS, List.getElem?_take] at hj
   split at hj
   ·exact hj
   ·cases hj
  have hDl : (CS.drop (i * 4)).length = (n - i) * 4 := by rw [List.length_drop, hCSl, Nat.sub_mul]
  have hRes : Reps (Kd.M k59 w w0.heap.size okk) 4 (l0.take i ++ [x] ++ l0.drop i) (CS.take (i * 4) ++ cx ++ CS.drop (i * 4)) :=
   Kd.reps_append (Kd.reps_append (Kd.reps_take hrepC (by omega)) (SLX.reps_imp hRow (fun _ _ h => hF.1 _ _ _ _ _ _ _ _ h))) (Kd.reps_drop hrepC)
  have hsz3 : (Tryd.prog.info? 59).map (·.size) = some 4 := by rw [hi0]; simp [hzs]
  have hrl : (l0.take i ++ [x] ++ l0.drop i).length = n + 1 := by simp; omega
  have b1 : i ≤ n := by omega
  have b2 : n ≤ c := by omega
  have b3 : ¬ ((i : Int) = (n : Int)) := by omega
  have b4 : ¬ c = i := by omega
  have b5 : i ≤ c := by omega
  have b6 : (0 : Int) ≤ (i : Int) + 1 := by omega
  have b7 : (i : Int) + 1 ≤ (n : Int) + 1 := by omega
  have b8 : ((i : Int) + 1).toNat = i + 1 := by omega
  have b9 : (i : Int) ≤ (n : Int) + 1 := by omega
  have hlm : n < 140737488355328 := by omega
  have w1_ : IntKind.i64.wrap ((n : Int) + 1) = (n : Int) + 1 := by rw [IntKind.wrap_i64]; omega
  have w2_ : IntKind.i64.wrap ((i : Int) + 1) = (i : Int) + 1 := by rw [IntKind.wrap_i64]; omega
  have w3_ : IntKind.i64.wrap ((n : Int) + 1 - (i : Int)) = (n : Int) + 1 - (i : Int) := by rw [IntKind.wrap_i64]; omega
  rw [← hn]
  by_cases hroom : n + 1 ≤ c
  ·
   have hl := SLX.shift_list cur.toList cx (CS.drop (i * 4)) (i * 4) (by rw [hcxl, hDl, Array.length_toList, hcsz]; have := Nat.mul_le_mul_right 4 hroom; omega)
   rw [hcxl, hDl, show i * 4 + 4 + (n - i) * 4 = (n + 1) * 4 by omega, show i * 4 + 4 = (i + 1) * 4 by omega] at hl
   obtain ⟨c1, hc1⟩ : ∃ c1 : Array Value, c1 = (cur.toList.take ((i + 1) * 4) ++ CS.drop (i * 4) ++ cur.toList.drop ((n + 1) * 4)).toArray := ⟨_, rfl⟩
   obtain ⟨c3, hc3⟩ : ∃ c3 : Array Value, c3 = (c1.toList.take (i * 4) ++ cx ++ c1.toList.drop ((i + 1) * 4)).toArray := ⟨_, rfl⟩
   have hc1s : c1.size = cur.size := by rw [hc1]; simp [hDl, hcsz]; have := Nat.mul_le_mul_right 4 hroom; omega
   have e1 : c3.toList.take ((n + 1) * 4) = CS.take (i * 4) ++ cx ++ CS.drop (i * 4) := by
    have h := hl.1
    rw [hc3, hc1]
    simp only [List.toList_toArray]
    rw [h, hCS, List.take_take, Nat.min_eq_left (by rw [← hn]; omega)]
   have e2 : c3.size = c * 4 := by
    have h := hl.2
    rw [← hcsz, ← Array.length_toList, ← Array.length_toList, hc3, hc1]
    simpa only [List.toList_toArray] using h
   have hov : ∀ lb cb, (callFunc 58 #[.slice (some ⟨g2, 0, none⟩) 1 c2, .slice (some ⟨g, (i + 1) * 4, none⟩) lb cb]).run Tryd.prog w = .ok (.value (.bool false)) w := fun lb cb => by
    rw [run_callFunc_extern Tryd.func58 (by kernel_rfl) (by kernel_rfl) (by kernel_rfl) (e := Extern.SlicesOverlaps.overlaps #[26, 26] #[4]) (by kernel_rfl),
     Lib.run_overlaps_apart w 26 4 59 Tryd.underlying26 4 Tryd.sizeOf59 ⟨g2, 0, none⟩ ⟨g, (i + 1) * 4, none⟩ 1 c2 lb cb (Ne.symm hgg) 59 59 cur2.size cur.size (by simp [World.shape?, hh2]) (by simp [World.shape?, hh]) (by rw [hcsz]; omega) (bJ_ hh2 _) (bJ_ hh2 _)]
    rfl
   have hA1 : ∀ ty dl dc sl sc, dl = n - i → sl = n + 1 - i → (Builtin.copy_ #[26, 26] ty #[.slice (some ⟨g, (i + 1) * 4, none⟩) dl dc, .slice (some ⟨g, i * 4, none⟩) sl sc]).run Tryd.prog w.drew = .ok (goInt (Nat.min sl dl)) (w.drew.setRow g c1) := fun ty dl dc sl sc hdl hsl => by
    have := SLX.run_copy_k (P := Tryd.prog) w.drew 26 26 ty 59 4 g ((i + 1) * 4) dl dc ⟨g, i * 4, none⟩ sl sc cur 59 (CS.drop (i * 4)) Tryd.underlying26 hsz3 hh (by rw [hDl]; congr 1; simp only [Nat.min_def]; split <;> omega)
     (hCSc w.drew hh _) (by rw [hDl, hcsz]; have := Nat.mul_le_mul_right 4 hroom; omega) (fun v hv => hCS1 v (List.mem_of_mem_drop hv))
    rw [hDl, show (i + 1) * 4 + (n - i) * 4 = (n + 1) * 4 by omega, ← hc1] at this
    exact this
   have hh3 : (w.drew.setRow g c1).heap[g]? = some (.cells c1 59 (0, 0)) := setRow_heap w.drew g cur c1 59 (0, 0) hh
   have hh4 : (w.drew.setRow g c1).heap[g2]? = some (.cells cur2 59 (0, 0)) := (setRow_other w.drew g g2 c1 (Ne.symm hgg)).trans hh2
   have hA2 : ∀ ty dl dc, dl = n + 1 - i → (Builtin.copy_ #[26, 26] ty #[.slice (some ⟨g, i * 4, none⟩) dl dc, .slice (some ⟨g2, 0, none⟩) 1 c2]).run Tryd.prog (w.drew.setRow g c1) = .ok (goInt (Nat.min 1 dl)) ((w.drew.setRow g c1).setRow g c3) := fun ty dl dc hdl => by
    have := SLX.run_copy_k (P := Tryd.prog) (w.drew.setRow g c1) 26 26 ty 59 4 g (i * 4) dl dc ⟨g2, 0, none⟩ 1 c2 c1 59 cx Tryd.underlying26 hsz3 hh3 (by rw [hcxl]; simp only [Nat.min_def]; split <;> omega)
     (hcxc _ hh4) (by rw [hcxl, hc1s, hcsz]; omega) hcx1
    rw [hcxl, show i * 4 + 4 = (i + 1) * 4 by omega, ← hc3] at this
    exact this
   have HG : w.grownBy ((w.drew.setRow g c1).setRow g c3) (some g) := World.grownBy.trans (World.grownBy.trans (dc_ (dr_ (Below.refl _ _)) _) (SLX.dE_ w.drew g c1)) (SLX.dE_ _ g c3)
   have HB := Aside0.mk (hB.grown HG hB.size (fun k hk => by injection hk with hk; subst hk; exact hbg))
   have HK := Aside0.mk (SLX.kept_of_grown (S := fun k_ => P0_ k_ ∨ P2_ k_) HG (.inl hok))
   have HR := Aside0.mk (SLX.R_shut (d := k59) (e := 59) (W := (w.drew.setRow g c1).setRow g c3) (base := w0.heap.size) (g := g) (c := c) (n := n + 1) (ok := fun k_ => ((P0_ k_ ∨ P2_ k_) ∨ w.heap.size ≤ k_)) (xs := l0.take i ++ [x] ++ l0.drop i) (.inl (.inl hok)) hbg (setRow_heap _ g c1 c3 59 (0, 0) hh3) hrl.symm hroom hcm e2
    (by show Reps _ 4 _ (List.take ((n + 1) * 4) _); rw [e1]; exact SLX.reps_imp hRes (fun _ _ h => hF.1 _ _ _ _ _ _ _ _ h)))
   have b10 : ¬ c = i + 1 := by omega
   have b11 : ¬ ((c : Int) < (n : Int) + 1) := by omega
   have b12 : n + 1 ≤ c := hroom
   have b13 : i + 1 ≤ c := by omega
   have b14 : i ≤ n + 1 := by omega
   clear HG hh3 hh4 hl e1 e2 hc1 hc3 hc1s hRes hrepC hCSc hCSl hDl hCS hCS1 hcxc hcx hRow hrep hrep2 hh hh2 ho0 ho2 hB hC2 hcs hcs2 h h0 h1 hlim hrl hend hnc
   have HN := Aside0.mk hn
   clear hn
   go_enter Tryd.func32, Tryd.ntmps32
   go_wp2_with (simp only [hov])
   go_region_law (refine SLX.step_copy_runS rfl (.tmp 73) (.tmp 76) 26 26 rfl (.slice (some ⟨g, (i + 1) * 4, none⟩) (n + 1 - (i + 1)) (c - (i + 1))) (.slice (some ⟨g, i * 4, none⟩) (n + 1 - i) (c - i)) (by simp [Act.eval, Act.put]) (by simp [Act.eval, Act.put]) (hA1 _ _ _ _ _ (by omega) (by omega)) ?_)
   go_wp2_with (at_builtin; refine SLX.list_copy_runS rfl (.tmp 80) (.tmp 81) 26 26 rfl _ _ rfl rfl (hA2 _ _ _ (by omega)) ?_)
   go_ret
   exact ⟨_, rfl, HR.out, HB.out, HK.out⟩
  ·
   have hgl : g < w.heap.size := (Array.getElem?_eq_some_iff.1 hh).1
   have hgl2 : g2 < w.heap.size := (Array.getElem?_eq_some_iff.1 hh2).1
   have hold : (Builtin.firstCells i0.size i (.slice (some ⟨g, 0, none⟩) i c)).run Tryd.prog w.drew = .ok (CS.take (i * 4)).toArray w.drew := by
    rw [hzs]
    refine run_firstCells_some w.drew 4 i ⟨g, 0, none⟩ i c (CS.take (i * 4)) (by rw [List.length_take, hCSl]; omega) (fun j v hj => ?_)
    rw [List.getElem?_take] at hj
    split at hj
    ·exact hCSc w.drew hh 0 j v (by rwa [List.drop_zero])
    ·cases hj
   obtain ⟨G, hG⟩ : ∃ G, G = grownCap w (n + 1) c 59 := ⟨_, rfl⟩
   have hGn : n + 1 ≤ G := by rw [hG]; exact grownCap_ge w _ _ _
   have hGm : G ≤ maxLen := by rw [hG]; exact grownCap_le_maxLen w (n + 1) c 59 (by rw [hsz]; omega)
   obtain ⟨ROW, hROW⟩ : ∃ ROW : Array Value, ROW = (CS.take (i * 4)).toArray ++ Builtin.zeroCells (Value.cells (.agg #[(.string ⟨#[]⟩), (.string ⟨#[]⟩), (.int .i64 0), (.int .i64 0)])) (n + 1 - i) ++ Builtin.zeroCells (Value.cells (.agg #[(.string ⟨#[]⟩), (.string ⟨#[]⟩), (.int .i64 0), (.int .i64 0)])) (G - (n + 1)) := ⟨_, rfl⟩
   have hzc : (Value.cells (.agg #[(.string ⟨#[]⟩), (.string ⟨#[]⟩), (.int .i64 0), (.int .i64 0)])).size = 4 := rfl
   have hRs : ROW.size = G * 4 := by
    rw [hROW, Array.size_append, Array.size_append, SLX.zeroCells_size, SLX.zeroCells_size, hzc, List.size_toArray, List.length_take, hCSl]
    have := Nat.mul_le_mul_right 4 hGn
    omega
   have hGn3 : (n + 1) * 4 ≤ G * 4 := Nat.mul_le_mul_right _ hGn
   have hRt : ROW.toList.take (i * 4) = CS.take (i * 4) := by
    rw [hROW, Array.toList_append, Array.toList_append, List.append_assoc]
    exact List.take_left' (by simp [hCSl]; omega)
   have hrz : ∀ ty, (Builtin.append_ #[26, 3] ty #[.slice (some ⟨g, 0, none⟩) i c, .int .i64 ((n : Int) + 1 - (i : Int))]).run Tryd.prog w = .ok (.slice (some ⟨w.heap.size, 0, none⟩) (n + 1) G) (w.drew.alloc (.cells ROW 59)) := fun ty => by
    have h := Lib.run_append_grow_zeros (P := Tryd.prog) w 26 3 ty 59 i0 (.agg #[(.string ⟨#[]⟩), (.string ⟨#[]⟩), (.int .i64 0), (.int .i64 0)]) .i64 .i64 Tryd.underlying26 Tryd.underlying3 hi0 hz0 (some ⟨g, 0, none⟩) i c (CS.take (i * 4)) hold (n + 1 - i) (by omega) (by rw [hzs]; decide) (by omega) (by omega) (by rw [hzb]; omega) (by rw [hzb, show i + (n + 1 - i) = n + 1 by omega]; exact growslice_fits (by omega) (by omega))
    rw [show i + (n + 1 - i) = n + 1 by omega, ← hG, ← hROW] at h
    rw [show (n : Int) + 1 - (i : Int) = ((n + 1 - i : Nat) : Int) by omega]
    exact h
   have hl := SLX.ins_list ROW.toList cx (CS.drop (i * 4)) (i * 4) (by rw [hcxl, hDl, Array.length_toList, hRs]; omega)
   rw [hcxl, hDl, show i * 4 + 4 + (n - i) * 4 = (n + 1) * 4 by omega, show i * 4 + 4 = (i + 1) * 4 by omega, hRt] at hl
   obtain ⟨c1, hc1⟩ : ∃ c1 : Array Value, c1 = (CS.take (i * 4) ++ cx ++ ROW.toList.drop ((i + 1) * 4)).toArray := ⟨_, rfl⟩
   obtain ⟨c3, hc3⟩ : ∃ c3 : Array Value, c3 = (c1.toList.take ((i + 1) * 4) ++ CS.drop (i * 4) ++ c1.toList.drop ((n + 1) * 4)).toArray := ⟨_, rfl⟩
   have hc1s : c1.size = G * 4 := by rw [hc1]; simp [hCSl, hcxl, hRs]; omega
   have e1 : c3.toList.take ((n + 1) * 4) = CS.take (i * 4) ++ cx ++ CS.drop (i * 4) := by
    rw [hc3, hc1]
    simpa only [List.toList_toArray] using hl.1
   have e2 : c3.size = G * 4 := by
    have h := hl.2
    rw [← hRs, ← Array.length_toList, ← Array.length_toList, hc3, hc1]
    simpa only [List.toList_toArray] using h
   have hA1 : ∀ (W : World), W.heap[w.heap.size]? = some (.cells ROW 59 (0, 0)) → W.heap[g2]? = some (.cells cur2 59 (0, 0)) → ∀ ty dl dc, dl = n + 1 - i → (Builtin.copy_ #[26, 26] ty #[.slice (some ⟨w.heap.size, i * 4, none⟩) dl dc, .slice (some ⟨g2, 0, none⟩) 1 c2]).run Tryd.prog W = .ok (goInt (Nat.min 1 dl)) (W.setRow w.heap.size c1) := fun W hW hW2 ty dl dc hdl => by
    have := SLX.run_copy_k (P := Tryd.prog) W 26 26 ty 59 4 w.heap.size (i * 4) dl dc ⟨g2, 0, none⟩ 1 c2 ROW 59 cx Tryd.underlying26 hsz3 hW (by rw [hcxl]; simp only [Nat.min_def]; split <;> omega)
     (hcxc W hW2) (by rw [hcxl, hRs]; omega) hcx1
    rw [hcxl, show i * 4 + 4 = (i + 1) * 4 by omega, hRt, ← hc1] at this
    exact this
   have hA2 : ∀ (W : World), W.heap[w.heap.size]? = some (.cells c1 59 (0, 0)) → W.heap[g]? = some (.cells cur 59 (0, 0)) → ∀ ty dl dc sl sc, dl = n - i → sl = n - i → (Builtin.copy_ #[26, 26] ty #[.slice (some ⟨w.heap.size, (i + 1) * 4, none⟩) dl dc, .slice (some ⟨g, i * 4, none⟩) sl sc]).run Tryd.prog W = .ok (goInt (Nat.min sl dl)) (W.setRow w.heap.size c3) := fun W hW hW2 ty dl dc sl sc hdl hsl => by
    have := SLX.run_copy_k (P := Tryd.prog) W 26 26 ty 59 4 w.heap.size ((i + 1) * 4) dl dc ⟨g, i * 4, none⟩ sl sc c1 59 (CS.drop (i * 4)) Tryd.underlying26 hsz3 hW (by rw [hDl]; congr 1; simp only [Nat.min_def]; split <;> omega)
     (hCSc W hW2 _) (by rw [hDl, hc1s]; omega) (fun v hv => hCS1 v (List.mem_of_mem_drop hv))
    rw [hDl, show (i + 1) * 4 + (n - i) * 4 = (n + 1) * 4 by omega, ← hc3] at this
    exact this
   obtain ⟨Wa, hWa⟩ : ∃ Wa, Wa = (w.alloc (.cells ROW 59)).drew := ⟨_, rfl⟩
   have a1_ : Wa.heap[w.heap.size]? = some (.cells ROW 59 (0, 0)) := by rw [hWa]; exact heap_alloc_new w _
   have a2_ : Wa.heap[g2]? = some (.cells cur2 59 (0, 0)) := by rw [hWa]; exact (heap_alloc_old w _ hgl2).trans hh2
   have a3_ : Wa.heap[g]? = some (.cells cur 59 (0, 0)) := by rw [hWa]; exact (heap_alloc_old w _ hgl).trans hh
   have a4_ : (Wa.setRow w.heap.size c1).drew.heap[w.heap.size]? = some (.cells c1 59 (0, 0)) := setRow_heap Wa _ ROW c1 59 (0, 0) a1_
   have a5_ : (Wa.setRow w.heap.size c1).drew.heap[g]? = some (.cells cur 59 (0, 0)) := (setRow_other Wa _ g c1 (by omega)).trans a3_
   have r1 : ∀ ty dl dc, dl = n + 1 - i → _ := hA1 Wa a1_ a2_
   have r2 : ∀ ty dl dc sl sc, dl = n - i → sl = n - i → _ := hA2 (Wa.setRow w.heap.size c1).drew a4_ a5_
   have HG : w.grownBy ((Wa.setRow w.heap.size c1).drew.setRow w.heap.size c3) (some w.heap.size) := by
    refine World.grownBy.trans (World.grownBy.trans (World.grownBy.trans (b := Wa) ?_ (SLX.dE_ Wa w.heap.size c1)) (dc_ (dr_ (Below.refl _ _)) _)) (SLX.dE_ _ _ c3)
    rw [hWa]
    exact dc_ (dr_ (bA_ (Below.refl _ _) _)) _
   have HB := Aside0.mk (hB.grown HG hB.size (fun k hk => by injection hk with hk; subst hk; exact hB.size))
   have HK : Aside0 (Kept w ((Wa.setRow w.heap.size c1).drew.setRow w.heap.size c3) (fun k_ => P0_ k_ ∨ P2_ k_)) := ⟨⟨HG.size, fun k hk _ => HG.block k hk (fun he => by injection he with he; omega)⟩⟩
   have HR := Aside0.mk (SLX.R_shut (d := k59) (e := 59) (W := (Wa.setRow w.heap.size c1).drew.setRow w.heap.size c3) (base := w0.heap.size) (g := w.heap.size) (c := G) (n := n + 1) (ok := fun k_ => ((P0_ k_ ∨ P2_ k_) ∨ w.heap.size ≤ k_)) (xs := l0.take i ++ [x] ++ l0.drop i) (.inr (Nat.le_refl _)) hB.size (setRow_heap _ _ c1 c3 59 (0, 0) a4_) hrl.symm hGn hGm e2
    (by show Reps _ 4 _ (List.take ((n + 1) * 4) _); rw [e1]; exact SLX.reps_imp hRes (fun _ _ h => hF.1 _ _ _ _ _ _ _ _ h)))
   have b10 : ¬ G = i + 1 := by omega
   have b11 : ((c : Int) < (n : Int) + 1) := by omega
   have b12 : ¬ G = i := by omega
   have b13 : i + 1 ≤ G := by omega
   have b14 : i ≤ n + 1 := by omega
   have b15 : i ≤ G := by omega
   subst hWa
   clear HG hl e1 e2 hc1 hc3 hc1s hRes hrepC hCSc hCSl hDl hCS hCS1 hcxc hcx hRow hrep hrep2 hh hh2 ho0 ho2 hB hC2 hcs hcs2 h h0 h1 hlim hrl hend hnc hold hG hROW hRs hRt hA1 hA2 a1_ a2_ a3_ a4_ a5_ hgl hgl2
   have HN := Aside0.mk hn
   clear hn
   go_enter Tryd.func32, Tryd.ntmps32
   go_wp2_with (first
    | (at_builtin; refine SLX.list_append_runS rfl (.tmp 34) (.tmp 39) 26 3 rfl _ _ rfl rfl (hrz _) ?_)
    | (at_builtin; refine SLX.list_copy_runS rfl (.tmp 43) (.tmp 44) 26 26 rfl _ _ rfl rfl (r1 _ _ _ (by omega)) ?_))
   go_region_law (refine SLX.step_copy_runS rfl (.tmp 50) (.tmp 53) 26 26 rfl (.slice (some ⟨w.heap.size, (i + 1) * 4, none⟩) (n + 1 - (i + 1)) (G - (i + 1))) (.slice (some ⟨g, i * 4, none⟩) (n - i) (c - i)) (by simp [Act.eval, Act.put]) (by simp [Act.eval, Act.put]) (r2 _ _ _ _ _ (by omega) (by omega)) ?_)
   go_wp2
   go_ret
   exact ⟨_, rfl, HR.out, HB.out, HK.out⟩
def cz_.f (l0 : List S59) (a1 : Int) (a2 : Int) : Option (List S59) := if 0 ≤ a1 ∧ a1 < (l0.length : Int) ∧ a2 = a1 + 1 then some (l0.eraseIdx a1.toNat) else none
set_option maxHeartbeats 1000000 in
set_option maxRecDepth 100000 in
theorem cz_.calls (P0_ : Nat → Prop) (u9000_ : Value) (l0 : List S59) (a1 : Int) (a2 : Int) (r : List S59) (w0 w : World) (hB : Below w0.heap.size w0 w) (ho0 : Kd.R k59 59 w w0.heap.size P0_ u9000_ l0) (h : cz_.f l0 a1 a2 = some r) :
  Calls Tryd.prog 33 #[u9000_, .int .i64 a1, .int .i64 a2] w fun e w' => ∃ v0_ : Value, e = .returned (v0_) ∧ Kd.R k59 59 w' w0.heap.size (fun k_ => (P0_ k_ ∨ w.heap.size ≤ k_)) v0_ r ∧ Below w0.heap.size w0 w' ∧ Kept w w' (fun k_ => P0_ k_) := by
 unfold cz_.f at h
 split at h
 case isFalse => cases h
 rename_i hc
 obtain ⟨h0, h1, rfl⟩ := hc
 obtain rfl := Option.some.inj h
 obtain ⟨i, rfl⟩ := Int.eq_ofNat_of_zero_le h0
 rcases SLX.R_open ho0 with ⟨_, rfl⟩ | ⟨g, c, cur, okk, rfl, hok, hbg, hh, hnc, hcm, hcs, hrep⟩
 ·simp at h1; omega
 have hsz : maxLen = 9223372036854775807 := by decide
 have hi : i < l0.length := by omega
 obtain ⟨n, hn⟩ : ∃ n, n = l0.length := ⟨_, rfl⟩
 obtain ⟨i0, hi0, hz0, hzs, _⟩ := info_parts dm_
 have hA1 : (if c = i + 1 then some (⟨g, 0, none⟩ : Addr) else some ⟨g, (i + 1) * 4, none⟩) = (if c = i + 1 then some (⟨g, 0, none⟩ : Addr) else (some (⟨g, 0, none⟩ : Addr)).map (·.add ((i + 1) * 4))) := by
  split
  ·rfl
  ·rw [Option.map_some, add_plain]
 have hgl : g < w.heap.size := (Array.getElem?_eq_some_iff.1 hh).1
 have HO : Kd.R k59 59 w.drew w0.heap.size P0_ (.slice (some ⟨g, 0, none⟩) n c) l0 := by rw [hn]; exact Kd.R_drew ho0
 obtain ⟨w1, hr1, HO1, hg1⟩ := Kd.R_delete_run (P := Tryd.prog) k59 w0.heap.size 26 26 59 i0 Tryd.underlying26 hi0 hzs HO (k := i) (by omega) rfl (c - (i + 1))
 replace hr1 : (Builtin.append_ #[26, 26] 26 #[.slice (some ⟨g, 0, none⟩) i c, .slice (if c = i + 1 then some (⟨g, 0, none⟩ : Addr) else (some (⟨g, 0, none⟩ : Addr)).map (·.add ((i + 1) * 4))) (n - (i + 1)) (c - (i + 1))]).run Tryd.prog w.drew = .ok (.slice (some ⟨g, 0, none⟩) (n - 1) c) w1 := hr1
 have hr1' : (Builtin.append_ #[26, 26] 26 #[.slice (some ⟨g, 0, none⟩) i c, .slice (if c = i + 1 then some (⟨g, 0, none⟩ : Addr) else some ⟨g, (i + 1) * 4, none⟩) (n - (i + 1)) (c - (i + 1))]).run Tryd.prog w.drew = .ok (.slice (some ⟨g, 0, none⟩) (n - 1) c) w1 := by rw [hA1]; exact hr1
 have hl1 : (l0.eraseIdx i).length = n - 1 := by rw [List.length_eraseIdx_of_lt hi, hn]
 rcases SLX.R_open HO1 with ⟨hx, _⟩ | ⟨g', c', cur1, okk1, hx, _, _, hh1, hnc1, _, hcs1, hrep1⟩
 ·cases hx
 injection hx with hx1 hx2 hx3
 injection hx1 with hx1
 injection hx1 with hx1
 subst hx1; subst hx3
 have hq : (n - 1) * 4 + 4 ≤ cur1.size := by
  rw [hcs1]
  have : (n - 1 + 1) * 4 ≤ c * 4 := Nat.mul_le_mul_right _ (by omega)
  rw [Nat.add_mul, Nat.one_mul] at this
  exact this
 have hr2 := SLX.run_clear_k (P := Tryd.prog) w1 26 59 0 (.agg #[(.string ⟨#[]⟩), (.string ⟨#[]⟩), (.int .i64 0), (.int .i64 0)]) Tryd.underlying26 Tryd.zeroValue59 (fun v hv => (List.all_eq_true.mp (show (Value.cells (.agg #[(.string ⟨#[]⟩), (.string ⟨#[]⟩), (.int .i64 0), (.int .i64 0)])).toList.all Value.oneCell' = true by kernel_rfl)) v hv) g ((n - 1) * 4) (c - (n - 1)) cur1 hh1 hq
 obtain ⟨w2, hw2⟩ : ∃ w2, w2 = w1.setRow g (cur1.toList.take ((n - 1) * 4) ++ (Value.cells (.agg #[(.string ⟨#[]⟩), (.string ⟨#[]⟩), (.int .i64 0), (.int .i64 0)])).toList ++ cur1.toList.drop ((n - 1) * 4 + (Value.cells (.agg #[(.string ⟨#[]⟩), (.string ⟨#[]⟩), (.int .i64 0), (.int .i64 0)])).size)).toArray := ⟨_, rfl⟩
 rw [← hw2] at hr2
 rw [← hn]
 have hF : SLX.Flat k59 := ⟨fun _ _ _ _ _ _ _ _ h => h, fun _ _ _ _ _ h => h⟩
 have HR := SLX.R_spare hF HO1 hh1 (Value.cells (.agg #[(.string ⟨#[]⟩), (.string ⟨#[]⟩), (.int .i64 0), (.int .i64 0)])).toList ((n - 1) * 4) (Nat.le_refl _) (by rw [Array.length_toList]; exact hq)
 rw [Array.length_toList, ← hw2] at HR
 have HG : w.grownBy w2 (some g) := World.grownBy.trans (World.grownBy.trans (dc_ (dr_ (Below.refl _ _)) _) hg1) (hw2 ▸ SLX.dE_ w1 g _)
 have HB := Aside0.mk (hB.grown HG hB.size (fun k hk => by injection hk with hk; subst hk; exact hbg))
 have HK := Aside0.mk (SLX.kept_of_grown (S := fun k_ => P0_ k_) HG hok)
 have HR2 := Aside0.mk (Kd.aT_ (ok' := fun k_ => (P0_ k_ ∨ w.heap.size ≤ k_)) HR (fun k hk => .inl hk))
 simp [Value.cells] at hw2
 rw [hw2] at HB HK HR2
 clear HR HG
 have b1 : i ≤ c := by omega
 have b2 : i < n := by omega
 have b3 : n ≤ c := by omega
 have b4 : n - 1 ≤ n := by omega
 have b5 : ¬ c = n - 1 := by omega
 have b6 : n - (n - 1) = 1 := by omega
 have b7 : (0 : Int) ≤ (i : Int) + 1 := by omega
 have b8 : (i : Int) + 1 ≤ (n : Int) := by omega
 have HN := Aside0.mk hn
 clear hn hi hnc
 clear HO1 hB h1 h hx2 hrep1 hcs1 hnc1 hrep hcs HO ho0
 go_enter Tryd.func33, Tryd.ntmps33
 go_wp2
 go_region_law (first | refine SLX.dF_ rfl (.tmp 22) (.tmp 25) 26 rfl (.slice (some ⟨g, 0, none⟩) i c) (.slice (if c = i + 1 then some (⟨g, 0, none⟩ : Addr) else (some (⟨g, 0, none⟩ : Addr)).map (·.add ((i + 1) * 4))) (n - (i + 1)) (c - (i + 1))) (by simp [Act.eval, Act.put]) (by simp [Act.eval, Act.put]) hr1 ?_ | refine SLX.dF_ rfl (.tmp 22) (.tmp 25) 26 rfl _ _ rfl rfl hr1 ?_ | refine SLX.dF_ rfl (.tmp 22) (.tmp 25) 26 rfl _ _ rfl rfl hr1' ?_)
 go_wp2
 all_goals
  go_ret
  try subst_vars
  exact ⟨_, rfl, HR2.out, HB.out, HK.out⟩
end Go.Proofs.YtiheginanghhjaaDoor.Q
namespace Go.Proofs.YtiheginanghhjaaDoor.Q
open Go.RowKit Go.Proofs.YtiheginanghhjaaDoorW.PrintWords Go.Proofs.YtiheginanghhjaaDoorW.PrintLast Go.Proofs.YtiheginanghhjaaDoorW.PrintMore
attribute [local go_sem] aJ_ aI_ aW_ aX_ az_ aA_ aG_ aH_
attribute [local go_sem high] eqA59
mutual
def aq_.j0 : Nat → List (S59) → List (S63) → Bool → Option ((List (S59)) × Int)
 | 0, _, _, _ => none
 | k + 1, x0, x1, x17 => if x17 = true then (some (([] : List (S59)), 1)) else ((cj_.f x0).bind fun t103 => (aq_.l0 k t103 x1 (x1.length : Int) 0))
def aq_.l0 : Nat → List (S59) → List (S63) → Int → Int → Option ((List (S59)) × Int)
 | 0, _, _, _, _ => none
 | k + 1, x6, x20, x21, x22 => if x22 < x21 then (if 0 ≤ x22 then (if x22 < (x20.length : Int) then ((bM_.f k x6 ((ak_ x20 x22).f1.f0)).bind fun bt108 => (if ((ak_ x20 x22).f0) = 1 then (aq_.j2 k x6 bt108.1 bt108.2 x20 x21 x22 bt108.2 ((ak_ x20 x22).f0) ((ak_ x20 x22).f1.f0) ((ak_ x20 x22).f1.f1.f0) ((ak_ x20 x22).f1.f1.f1) ((ak_ x20 x22).f1.f1.f2)) else (aq_.j2 k x6 bt108.1 bt108.2 x20 x21 x22 false ((ak_ x20 x22).f0) ((ak_ x20 x22).f1.f0) ((ak_ x20 x22).f1.f1.f0) ((ak_ x20 x22).f1.f1.f1) ((ak_ x20 x22).f1.f1.f2)))) else (none)) else (none)) else (some (x6, 0))
def aq_.j2 : Nat → List (S59) → Int → Bool → List (S63) → Int → Int → Bool → Int → ByteArray → ByteArray → Int → Int → Option ((List (S59)) × Int)
 | 0, _, _, _, _, _, _, _, _, _, _, _, _ => none
 | k + 1, x6, x9, x10, x20, x21, x22, x39, x108000, x108001, x108002, x108003, x108004 => if x39 = true then (if 0 ≤ x9 then (if x9 < (x6.length : Int) then (aq_.l0 k (x6.set (x9 : Int).toNat (⟨x108001, (⟨x108002, x108003, x108004⟩ : S57)⟩ : S59)) x20 x21 (wrap64 (x22 + 1))) else (none)) else (none)) else (if x108000 = 1 then (aq_.j3 k x6 x9 x10 x20 x21 x22 ((x6.length : Int) == 24) x108000 x108001 x108002 x108003 x108004) else (aq_.j3 k x6 x9 x10 x20 x21 x22 false x108000 x108001 x108002 x108003 x108004))
def aq_.j3 : Nat → List (S59) → Int → Bool → List (S63) → Int → Int → Bool → Int → ByteArray → ByteArray → Int → Int → Option ((List (S59)) × Int)
 | 0, _, _, _, _, _, _, _, _, _, _, _, _ => none
 | k + 1, x6, x9, x10, x20, x21, x22, x51, x108000, x108001, x108002, x108003, x108004 => if x51 = true then (some (([] : List (S59)), 5)) else (if x108000 = 1 then ((cA_.f x6 x9 (([(⟨x108001, (⟨x108002, x108003, x108004⟩ : S57)⟩ : S59)] : List (S59)))).bind fun t114 => (aq_.l0 k t114 x20 x21 (wrap64 (x22 + 1)))) else (if x10 = true then (if 0 ≤ x9 then (if x9 < (x6.length : Int) then (if (!((((aa_ x6 x9).f0).toList) == x108001.toList) || ((!((((aa_ x6 x9).f1.f0).toList) == x108002.toList) || (!(((aa_ x6 x9).f1.f1) == x108003) || (!(((aa_ x6 x9).f1.f2) == x108004)))))) = true then (some (([] : List (S59)), 6)) else ((cz_.f x6 x9 (wrap64 (x9 + 1))).bind fun t118 => (aq_.l0 k t118 x20 x21 (wrap64 (x22 + 1))))) else (none)) else (none)) else (some (([] : List (S59)), 3))))
end
def aq_.f (k : Nat) (l0 : List (S59)) (l1 : List (S63)) : Option ((List (S59)) × Int) := (an_.f k l0).bind fun t101 => (if t101 = true then ((cp_.f k l1).bind fun t102 => (aq_.j0 k l0 l1 t102)) else (aq_.j0 k l0 l1 true))
set_option maxHeartbeats 8000000 in
set_option maxRecDepth 100000 in
theorem aq_.calls (k : Nat) (A0 : Option Addr) (c0 : Nat) (l0 : List (S59)) (A1 : Option Addr) (c1 : Nat) (l1 : List (S63)) (r1 : List (S59)) (r2 : Int) (w : World) (hr0 : Kd.C k59 w A0 l0.length l0) (hc0 : l0.length ≤ c0) (hr1 : Kd.C k63 w A1 l1.length l1) (hc1 : l1.length ≤ c1) (h : aq_.f k l0 l1 = some (r1, r2)) :
  Calls Tryd.prog 9 #[.slice A0 l0.length c0, .slice A1 l1.length c1] w fun e w' => ∃ v0_ : Value, e = .returned (.tuple #[v0_, .int .i64 r2]) ∧ Kd.R k59 59 w' w.heap.size (fun _ => True) v0_ r1 ∧ Below w.heap.size w w' := by
 have hu63 := Tryd.underlying63
 have hu59 := Tryd.underlying59
 have HR0 := Aside0.mk hr0
 have HC0 := Aside0.mk hc0
 clear hr0 hc0
 have HR1 := Aside0.mk hr1
 have HC1 := Aside0.mk hc1
 clear hr1 hc1
 have HB := Aside0.mk (Below.refl w.heap.size w)
 have H : ((an_.f k l0).bind fun t101 => (if t101 = true then ((cp_.f k l1).bind fun t102 => (aq_.j0 k l0 l1 t102)) else (aq_.j0 k l0 l1 true))) = some (r1, r2) := h
 clear h
 have HC3 := Aside0.mk H
 clear H
 go_enter Tryd.func9, Tryd.ntmps9
 go_upto_region 1 with (fail)
 repeat (go_quiet (fail); go_upto_region 1 with (fail))
 go_cut [17] (fun v17 wc => ∃ (kq : Nat) (x17_2 : Bool), v17 = .bool x17_2 ∧ Aside0 (aq_.j0 kq l0 l1 x17_2 = some (r1, r2)) ∧ Aside0 (kq ≤ k) ∧ Aside0 (Below w.heap.size w wc))
 case first =>
  have H := HC3.out
  clear HC3
  replace H := Option.bind_eq_some_iff.mp H
  obtain ⟨t101, A40, H⟩ := H
  (try dsimp only at H)
  have A4 := Aside0.mk A40
  clear A40
  by_cases c5 : t101 = true
  rotate_left
  ·replace c5 := Bool.eq_false_iff.mpr c5
   subst c5
   have H1 : (aq_.j0 k l0 l1 true) = some (r1, r2) := by rw [if_neg (show ¬ (false = true) by decide)] at H; exact H
   clear H
   have H := H1
   clear H1
   have H' := Aside0.mk H
   clear H
   go_wp2_with (first | (go_at_call 24; (with_reducible refine (an_.calls k _ _ l0 false _ ?side1 ?side2 A4.out).mono ?_); (case side1 => exact cz (Kd.bk_ HR0.out HB.out)); (case side2 => exact HC0.out); rintro e w9 ⟨rfl, hb⟩; replace HB := Aside0.mk (ab_ (bz HB.out) hb); (try clear hb)))
   repeat (go_quiet (first | (go_at_call 24; (with_reducible refine (an_.calls k _ _ l0 false _ ?side1 ?side2 A4.out).mono ?_); (case side1 => exact cz (Kd.bk_ HR0.out HB.out)); (case side2 => exact HC0.out); rintro e w9 ⟨rfl, hb⟩; replace HB := Aside0.mk (ab_ (bz HB.out) hb); (try clear hb))); try go_wp2_with (first | (go_at_call 24; (with_reducible refine (an_.calls k _ _ l0 false _ ?side1 ?side2 A4.out).mono ?_); (case side1 => exact cz (Kd.bk_ HR0.out HB.out)); (case side2 => exact HC0.out); rintro e w9 ⟨rfl, hb⟩; replace HB := Aside0.mk (ab_ (bz HB.out) hb); (try clear hb))))
   go_meet
   case rel => exact ⟨_, (true), (by first | rfl | (simp; done) | (simp [*]; done)), H', ⟨by first | omega | exact Nat.le_refl _⟩, ⟨bz HB.out⟩⟩
  subst c5
  have H1 : ((cp_.f k l1).bind fun t102 => (aq_.j0 k l0 l1 t102)) = some (r1, r2) := by rw [if_pos rfl] at H; exact H
  clear H
  have H := H1
  clear H1
  replace H := Option.bind_eq_some_iff.mp H
  obtain ⟨t102, A60, H⟩ := H
  (try dsimp only at H)
  have A6 := Aside0.mk A60
  clear A60
  have H' := Aside0.mk H
  clear H
  go_wp2_with (first | (go_at_call 24; (with_reducible refine (an_.calls k _ _ l0 true _ ?side1 ?side2 A4.out).mono ?_); (case side1 => exact cz (Kd.bk_ HR0.out HB.out)); (case side2 => exact HC0.out); rintro e w7 ⟨rfl, hb⟩; replace HB := Aside0.mk (ab_ (bz HB.out) hb); (try clear hb)) | (go_at_call 27; (with_reducible refine (cp_.calls k _ _ l1  t102 _ ?side1 ?side2 A6.out).mono ?_); (case side1 => exact cz (Kd.bk_ HR1.out HB.out)); (case side2 => exact HC1.out); rintro e w8 ⟨rfl, hb⟩; replace HB := Aside0.mk (ab_ (bz HB.out) hb); (try clear hb)))
  repeat (go_quiet (first | (go_at_call 24; (with_reducible refine (an_.calls k _ _ l0 true _ ?side1 ?side2 A4.out).mono ?_); (case side1 => exact cz (Kd.bk_ HR0.out HB.out)); (case side2 => exact HC0.out); rintro e w7 ⟨rfl, hb⟩; replace HB := Aside0.mk (ab_ (bz HB.out) hb); (try clear hb)) | (go_at_call 27; (with_reducible refine (cp_.calls k _ _ l1  t102 _ ?side1 ?side2 A6.out).mono ?_); (case side1 => exact cz (Kd.bk_ HR1.out HB.out)); (case side2 => exact HC1.out); rintro e w8 ⟨rfl, hb⟩; replace HB := Aside0.mk (ab_ (bz HB.out) hb); (try clear hb))); try go_wp2_with (first | (go_at_call 24; (with_reducible refine (an_.calls k _ _ l0 true _ ?side1 ?side2 A4.out).mono ?_); (case side1 => exact cz (Kd.bk_ HR0.out HB.out)); (case side2 => exact HC0.out); rintro e w7 ⟨rfl, hb⟩; replace HB := Aside0.mk (ab_ (bz HB.out) hb); (try clear hb)) | (go_at_call 27; (with_reducible refine (cp_.calls k _ _ l1  t102 _ ?side1 ?side2 A6.out).mono ?_); (case side1 => exact cz (Kd.bk_ HR1.out HB.out)); (case side2 => exact HC1.out); rintro e w8 ⟨rfl, hb⟩; replace HB := Aside0.mk (ab_ (bz HB.out) hb); (try clear hb))))
  go_meet
  case rel => exact ⟨_, (t102), (by first | rfl | (simp; done) | (simp [*]; done)), H', ⟨by first | omega | exact Nat.le_refl _⟩, ⟨bz HB.out⟩⟩
 case rest =>
  clear HC3
  obtain ⟨kq, x17_2, rfl, HA, HJ2, HB⟩ := hcut
  cases kq with
  | zero => exact absurd HA.out (by simp [aq_.j0])
  | succ kj2 =>
   have H := HA.out
   clear HA
   simp only [aq_.j0] at H
   by_cases c10 : x17_2 = true
   rotate_left
   ·replace c10 := Bool.eq_false_iff.mpr c10
    subst c10
    have H1 : ((cj_.f l0).bind fun t103 => (aq_.l0 kj2 t103 l1 (l1.length : Int) 0)) = some (r1, r2) := by rw [if_neg (show ¬ (false = true) by decide)] at H; exact H
    clear H
    have H := H1
    clear H1
    replace H := Option.bind_eq_some_iff.mp H
    obtain ⟨t103, A110, H⟩ := H
    (try dsimp only at H)
    have A11 := Aside0.mk A110
    clear A110
    have H' := Aside0.mk H
    clear H
    go_wp2_with (first | (go_at_call 31; (with_reducible refine (cj_.calls _ _ l0 t103 _ ?side1 ?side2 A11.out).mono ?_); (case side1 => exact cz (Kd.bk_ HR0.out HB.out)); (case side2 => exact HC0.out); rintro e w12 ⟨v104, rfl, ho0, hb⟩; have HO105 := Aside0.mk (Kd.bi_ ho0 (ag_ (bz HB.out))); replace HB := Aside0.mk (ab_ (bz HB.out) hb); (try clear hb); (try clear ho0)))
    repeat (go_quiet (first | (go_at_call 31; (with_reducible refine (cj_.calls _ _ l0 t103 _ ?side1 ?side2 A11.out).mono ?_); (case side1 => exact cz (Kd.bk_ HR0.out HB.out)); (case side2 => exact HC0.out); rintro e w12 ⟨v104, rfl, ho0, hb⟩; have HO105 := Aside0.mk (Kd.bi_ ho0 (ag_ (bz HB.out))); replace HB := Aside0.mk (ab_ (bz HB.out) hb); (try clear hb); (try clear ho0))); try go_wp2_with (first | (go_at_call 31; (with_reducible refine (cj_.calls _ _ l0 t103 _ ?side1 ?side2 A11.out).mono ?_); (case side1 => exact cz (Kd.bk_ HR0.out HB.out)); (case side2 => exact HC0.out); rintro e w12 ⟨v104, rfl, ho0, hb⟩; have HO105 := Aside0.mk (Kd.bi_ ho0 (ag_ (bz HB.out))); replace HB := Aside0.mk (ab_ (bz HB.out) hb); (try clear hb); (try clear ho0))))
    (try simp only [Act.put, lsa_, ls0_, ls1_])
    go_loopg [6, 22] kj2 (fun kq v6 v22 w' => ∃ (x6_2 : List (S59)) (x22_2 : Int), v22 = .int .i64 x22_2 ∧ Aside0 (aq_.l0 kq x6_2 l1 (l1.length : Int) x22_2 = some (r1, r2)) ∧ Aside0 (kq ≤ kj2) ∧ Aside0 (Kd.R k59 59 w' w.heap.size (fun _ => True) v6 x6_2) ∧ Aside0 (Below w.heap.size w w'))
    case atStart => exact ⟨(t103), (0), (by first | rfl | (simp; done) | (simp [*]; done)), H', ⟨Nat.le_refl _⟩, ⟨rz HO105.out⟩, ⟨bz HB.out⟩⟩
    case round =>
     clear H'
     obtain ⟨x6_2, x22_2, rfl, HA, HK2, HO_6, HB⟩ := hrel
     cases gk with
     | zero => exact absurd HA.out (by simp [aq_.l0])
     | succ k2 =>
      have H := HA.out
      clear HA
      simp only [aq_.l0] at H
      by_cases c13 : x22_2 < (l1.length : Int)
      rotate_left
      ·rw [if_neg c13] at H
       have c13b0 : decide (x22_2 < (l1.length : Int)) = false := decide_eq_false c13
       clear c13
       simp only [Option.some.injEq, Prod.mk.injEq] at H
       obtain ⟨rfl, rfl⟩ := H
       go_wp2
       repeat (go_quiet (fail); try go_wp2)
       go_ret2
       exact ⟨_, by first | rfl | (simp [*, ap_, ao_] <;> rfl), rz HO_6.out, bz HB.out⟩
      rw [if_pos c13] at H
      have c13b0 : decide (x22_2 < (l1.length : Int)) = true := decide_eq_true c13
      clear c13
      by_cases c14 : 0 ≤ x22_2
      rotate_left
      ·rw [if_neg c14] at H
       exact absurd H (by simp)
      rw [if_pos c14] at H
      have c14b0 : decide (0 ≤ x22_2) = true := decide_eq_true c14
      clear c14
      by_cases c15 : x22_2 < (l1.length : Int)
      rotate_left
      ·rw [if_neg c15] at H
       exact absurd H (by simp)
      rw [if_pos c15] at H
      have c15b0 : decide (x22_2 < (l1.length : Int)) = true := decide_eq_true c15
      clear c15
      replace H := Option.bind_eq_some_iff.mp H
      obtain ⟨⟨t108, t109⟩, A160, H⟩ := H
      (try dsimp only at H)
      have A16 := Aside0.mk A160
      clear A160
      have HC17 := Aside0.mk H
      clear H
      have p106 : 0 ≤ (x22_2 : Int) := of_decide_eq_true (by assumption)
      have q106 : x22_2 < (l1.length : Int) := of_decide_eq_true (by assumption)
      obtain ⟨ad106, e106, hx106_0, hx106_1, hx106_2, hx106_3, hx106_4⟩ := at_T63 HR1.out x22_2 p106 q106
      cases e106
      replace hx106_0 := bu_ HB.out hx106_0
      replace hx106_1 := bu_ HB.out hx106_1
      replace hx106_2 := bu_ HB.out hx106_2
      replace hx106_3 := bu_ HB.out hx106_3
      replace hx106_4 := bu_ HB.out hx106_4
      replace p106 := eq_true p106
      replace q106 := eq_true q106
      go_upto_region 9 with (first | ((with_reducible refine aL_ (N := 8) rfl ?_); (try (refine dh_ (by rfl) ?_; dsimp only)); refine bz_ ?hg (N := 8) ?hd (cs := #[.int .i64 0, .string (⟨#[]⟩ : ByteArray), .string (⟨#[]⟩ : ByteArray), .int .i64 0, .int .i64 0]) (t := 63) ?hr ?_; (case hd => rfl); (case hg => rfl); (case hr => (go_simp; try rfl)); intro gb107 hg w18 hbox hb; replace HO_6 := Aside0.mk (Kd.aM_ (rz HO_6.out) hb); have BK107 := Aside0.mk (hbox); have GW107 := Aside0.mk ((by rw [hg]; exact (ag_ (bz HB.out)) : w.heap.size ≤ gb107)); have GE107 := GW107; replace HB := Aside0.mk (ab_ (bz HB.out) hb); clear hb hbox hg; obtain ⟨hcz19_0, hcz19_1, hcz19_2, hcz19_3, hcz19_4⟩ := cz5_ BK107.out; obtain ⟨hfz19_0, hfz19_1, hfz19_2, hfz19_3, hfz19_4⟩ := fz5_ BK107.out; obtain ⟨Ao20, co20, eo20⟩ := Kd.bo_ HO_6.out; subst eo20) | (go_at_call 25; (with_reducible refine (bM_.calls k2 _ _ x6_2 ((ak_ l1 x22_2).f1.f0) t108 t109 _ ?side1 ?side2 A16.out).mono ?_); (case side1 => refine (Kd.aj_ (e := 59) (base := w.heap.size) (ok := fun k_ => True) (n := x6_2.length) (c := co20) ?_).2.2; exact (rz (Kd.aT_ (Kd.R_far (p := ⟨gb107, 4, none⟩) (Kd.R_far (p := ⟨gb107, 3, none⟩) (Kd.R_far (p := ⟨gb107, 2, none⟩) (Kd.R_far (p := ⟨gb107, 1, none⟩) (Kd.R_far (p := ⟨gb107, 0, none⟩) (Kd.cs_ HO_6.out BK107.out (by decide)) (fun _ hk => hk.2) (.int .i64 ((ak_ l1 x22_2).f0))) (fun _ hk => hk.2) (.string ((ak_ l1 x22_2).f1.f0))) (fun _ hk => hk.2) (.string ((ak_ l1 x22_2).f1.f1.f0))) (fun _ hk => hk.2) (.int .i64 ((ak_ l1 x22_2).f1.f1.f1))) (fun _ hk => hk.2) (.int .i64 ((ak_ l1 x22_2).f1.f1.f2))) (fun _ h_ => h_.1)))); (case side2 => exact (Kd.aj_ HO_6.out).2.1); rintro e w21 ⟨rfl, hb⟩; replace HO_6 := Aside0.mk (Kd.aM_ (rz (Kd.aT_ (Kd.R_far (p := ⟨gb107, 4, none⟩) (Kd.R_far (p := ⟨gb107, 3, none⟩) (Kd.R_far (p := ⟨gb107, 2, none⟩) (Kd.R_far (p := ⟨gb107, 1, none⟩) (Kd.R_far (p := ⟨gb107, 0, none⟩) (Kd.cs_ HO_6.out BK107.out (by decide)) (fun _ hk => hk.2) (.int .i64 ((ak_ l1 x22_2).f0))) (fun _ hk => hk.2) (.string ((ak_ l1 x22_2).f1.f0))) (fun _ hk => hk.2) (.string ((ak_ l1 x22_2).f1.f1.f0))) (fun _ hk => hk.2) (.int .i64 ((ak_ l1 x22_2).f1.f1.f1))) (fun _ hk => hk.2) (.int .i64 ((ak_ l1 x22_2).f1.f1.f2))) (fun _ h_ => h_.1))) hb); replace BK107 := Aside0.mk (aS_ (g := gb107) (o := .cells #[.int .i64 ((ak_ l1 x22_2).f0), .string ((ak_ l1 x22_2).f1.f0), .string ((ak_ l1 x22_2).f1.f1.f0), .int .i64 ((ak_ l1 x22_2).f1.f1.f1), .int .i64 ((ak_ l1 x22_2).f1.f1.f2)] 63 (0, 0)) (by exact kj5_4 (kj5_3 (kj5_2 (kj5_1 (kj5_0 (kz BK107.out)))))) hb); replace HB := Aside0.mk (ab_ (bq) hb); (try clear hb)))
      repeat (go_quiet (first | ((with_reducible refine aL_ (N := 8) rfl ?_); (try (refine dh_ (by rfl) ?_; dsimp only)); refine bz_ ?hg (N := 8) ?hd (cs := #[.int .i64 0, .string (⟨#[]⟩ : ByteArray), .string (⟨#[]⟩ : ByteArray), .int .i64 0, .int .i64 0]) (t := 63) ?hr ?_; (case hd => rfl); (case hg => rfl); (case hr => (go_simp; try rfl)); intro gb107 hg w18 hbox hb; replace HO_6 := Aside0.mk (Kd.aM_ (rz HO_6.out) hb); have BK107 := Aside0.mk (hbox); have GW107 := Aside0.mk ((by rw [hg]; exact (ag_ (bz HB.out)) : w.heap.size ≤ gb107)); have GE107 := GW107; replace HB := Aside0.mk (ab_ (bz HB.out) hb); clear hb hbox hg; obtain ⟨hcz19_0, hcz19_1, hcz19_2, hcz19_3, hcz19_4⟩ := cz5_ BK107.out; obtain ⟨hfz19_0, hfz19_1, hfz19_2, hfz19_3, hfz19_4⟩ := fz5_ BK107.out; obtain ⟨Ao20, co20, eo20⟩ := Kd.bo_ HO_6.out; subst eo20) | (go_at_call 25; (with_reducible refine (bM_.calls k2 _ _ x6_2 ((ak_ l1 x22_2).f1.f0) t108 t109 _ ?side1 ?side2 A16.out).mono ?_); (case side1 => refine (Kd.aj_ (e := 59) (base := w.heap.size) (ok := fun k_ => True) (n := x6_2.length) (c := co20) ?_).2.2; exact (rz (Kd.aT_ (Kd.R_far (p := ⟨gb107, 4, none⟩) (Kd.R_far (p := ⟨gb107, 3, none⟩) (Kd.R_far (p := ⟨gb107, 2, none⟩) (Kd.R_far (p := ⟨gb107, 1, none⟩) (Kd.R_far (p := ⟨gb107, 0, none⟩) (Kd.cs_ HO_6.out BK107.out (by decide)) (fun _ hk => hk.2) (.int .i64 ((ak_ l1 x22_2).f0))) (fun _ hk => hk.2) (.string ((ak_ l1 x22_2).f1.f0))) (fun _ hk => hk.2) (.string ((ak_ l1 x22_2).f1.f1.f0))) (fun _ hk => hk.2) (.int .i64 ((ak_ l1 x22_2).f1.f1.f1))) (fun _ hk => hk.2) (.int .i64 ((ak_ l1 x22_2).f1.f1.f2))) (fun _ h_ => h_.1)))); (case side2 => exact (Kd.aj_ HO_6.out).2.1); rintro e w21 ⟨rfl, hb⟩; replace HO_6 := Aside0.mk (Kd.aM_ (rz (Kd.aT_ (Kd.R_far (p := ⟨gb107, 4, none⟩) (Kd.R_far (p := ⟨gb107, 3, none⟩) (Kd.R_far (p := ⟨gb107, 2, none⟩) (Kd.R_far (p := ⟨gb107, 1, none⟩) (Kd.R_far (p := ⟨gb107, 0, none⟩) (Kd.cs_ HO_6.out BK107.out (by decide)) (fun _ hk => hk.2) (.int .i64 ((ak_ l1 x22_2).f0))) (fun _ hk => hk.2) (.string ((ak_ l1 x22_2).f1.f0))) (fun _ hk => hk.2) (.string ((ak_ l1 x22_2).f1.f1.f0))) (fun _ hk => hk.2) (.int .i64 ((ak_ l1 x22_2).f1.f1.f1))) (fun _ hk => hk.2) (.int .i64 ((ak_ l1 x22_2).f1.f1.f2))) (fun _ h_ => h_.1))) hb); replace BK107 := Aside0.mk (aS_ (g := gb107) (o := .cells #[.int .i64 ((ak_ l1 x22_2).f0), .string ((ak_ l1 x22_2).f1.f0), .string ((ak_ l1 x22_2).f1.f1.f0), .int .i64 ((ak_ l1 x22_2).f1.f1.f1), .int .i64 ((ak_ l1 x22_2).f1.f1.f2)] 63 (0, 0)) (by exact kj5_4 (kj5_3 (kj5_2 (kj5_1 (kj5_0 (kz BK107.out)))))) hb); replace HB := Aside0.mk (ab_ (bq) hb); (try clear hb))); go_upto_region 9 with (first | ((with_reducible refine aL_ (N := 8) rfl ?_); (try (refine dh_ (by rfl) ?_; dsimp only)); refine bz_ ?hg (N := 8) ?hd (cs := #[.int .i64 0, .string (⟨#[]⟩ : ByteArray), .string (⟨#[]⟩ : ByteArray), .int .i64 0, .int .i64 0]) (t := 63) ?hr ?_; (case hd => rfl); (case hg => rfl); (case hr => (go_simp; try rfl)); intro gb107 hg w18 hbox hb; replace HO_6 := Aside0.mk (Kd.aM_ (rz HO_6.out) hb); have BK107 := Aside0.mk (hbox); have GW107 := Aside0.mk ((by rw [hg]; exact (ag_ (bz HB.out)) : w.heap.size ≤ gb107)); have GE107 := GW107; replace HB := Aside0.mk (ab_ (bz HB.out) hb); clear hb hbox hg; obtain ⟨hcz19_0, hcz19_1, hcz19_2, hcz19_3, hcz19_4⟩ := cz5_ BK107.out; obtain ⟨hfz19_0, hfz19_1, hfz19_2, hfz19_3, hfz19_4⟩ := fz5_ BK107.out; obtain ⟨Ao20, co20, eo20⟩ := Kd.bo_ HO_6.out; subst eo20) | (go_at_call 25; (with_reducible refine (bM_.calls k2 _ _ x6_2 ((ak_ l1 x22_2).f1.f0) t108 t109 _ ?side1 ?side2 A16.out).mono ?_); (case side1 => refine (Kd.aj_ (e := 59) (base := w.heap.size) (ok := fun k_ => True) (n := x6_2.length) (c := co20) ?_).2.2; exact (rz (Kd.aT_ (Kd.R_far (p := ⟨gb107, 4, none⟩) (Kd.R_far (p := ⟨gb107, 3, none⟩) (Kd.R_far (p := ⟨gb107, 2, none⟩) (Kd.R_far (p := ⟨gb107, 1, none⟩) (Kd.R_far (p := ⟨gb107, 0, none⟩) (Kd.cs_ HO_6.out BK107.out (by decide)) (fun _ hk => hk.2) (.int .i64 ((ak_ l1 x22_2).f0))) (fun _ hk => hk.2) (.string ((ak_ l1 x22_2).f1.f0))) (fun _ hk => hk.2) (.string ((ak_ l1 x22_2).f1.f1.f0))) (fun _ hk => hk.2) (.int .i64 ((ak_ l1 x22_2).f1.f1.f1))) (fun _ hk => hk.2) (.int .i64 ((ak_ l1 x22_2).f1.f1.f2))) (fun _ h_ => h_.1)))); (case side2 => exact (Kd.aj_ HO_6.out).2.1); rintro e w21 ⟨rfl, hb⟩; replace HO_6 := Aside0.mk (Kd.aM_ (rz (Kd.aT_ (Kd.R_far (p := ⟨gb107, 4, none⟩) (Kd.R_far (p := ⟨gb107, 3, none⟩) (Kd.R_far (p := ⟨gb107, 2, none⟩) (Kd.R_far (p := ⟨gb107, 1, none⟩) (Kd.R_far (p := ⟨gb107, 0, none⟩) (Kd.cs_ HO_6.out BK107.out (by decide)) (fun _ hk => hk.2) (.int .i64 ((ak_ l1 x22_2).f0))) (fun _ hk => hk.2) (.string ((ak_ l1 x22_2).f1.f0))) (fun _ hk => hk.2) (.string ((ak_ l1 x22_2).f1.f1.f0))) (fun _ hk => hk.2) (.int .i64 ((ak_ l1 x22_2).f1.f1.f1))) (fun _ hk => hk.2) (.int .i64 ((ak_ l1 x22_2).f1.f1.f2))) (fun _ h_ => h_.1))) hb); replace BK107 := Aside0.mk (aS_ (g := gb107) (o := .cells #[.int .i64 ((ak_ l1 x22_2).f0), .string ((ak_ l1 x22_2).f1.f0), .string ((ak_ l1 x22_2).f1.f1.f0), .int .i64 ((ak_ l1 x22_2).f1.f1.f1), .int .i64 ((ak_ l1 x22_2).f1.f1.f2)] 63 (0, 0)) (by exact kj5_4 (kj5_3 (kj5_2 (kj5_1 (kj5_0 (kz BK107.out)))))) hb); replace HB := Aside0.mk (ab_ (bq) hb); (try clear hb))))
      (try simp only [Act.put, lsa_, ls0_, ls1_])
      go_cut [39] (fun v39 wc => ∃ (kq : Nat) (x39_16 : Bool), v39 = .bool x39_16 ∧ Aside0 (aq_.j2 kq x6_2 t108 t109 l1 (l1.length : Int) x22_2 x39_16 ((ak_ l1 x22_2).f0) ((ak_ l1 x22_2).f1.f0) ((ak_ l1 x22_2).f1.f1.f0) ((ak_ l1 x22_2).f1.f1.f1) ((ak_ l1 x22_2).f1.f1.f2) = some (r1, r2)) ∧ Aside0 (kq ≤ k2) ∧ Aside0 (Kd.R k59 59 wc w.heap.size (fun _ => True) (.slice Ao20 x6_2.length co20) x6_2) ∧ Aside0 (wc.heap[gb107]? = some (.cells #[.int .i64 ((ak_ l1 x22_2).f0), .string ((ak_ l1 x22_2).f1.f0), .string ((ak_ l1 x22_2).f1.f1.f0), .int .i64 ((ak_ l1 x22_2).f1.f1.f1), .int .i64 ((ak_ l1 x22_2).f1.f1.f2)] 63 (0, 0))) ∧ Aside0 (Below w.heap.size w wc))
      case first =>
       have H := HC17.out
       clear HC17
       by_cases c22 : ((ak_ l1 x22_2).f0) = 1
       rotate_left
       ·rw [if_neg c22] at H
        have c22b0 : (((ak_ l1 x22_2).f0) == 1) = false := beq_eq_false_iff_ne.mpr c22
        have c22b1 : (((ak_ l1 x22_2).f0) != 1) = true := bne_iff_ne.mpr c22
        (first | rw [c22b0] | (simp only [i64_w, i32_w]; rw [c22b0]) | (simp only [c22b1, Bool.not_true, Bool.not_false]) | (simp only [c22b0, Bool.not_true, Bool.not_false]) | skip)
        have H' := Aside0.mk H
        clear H
        obtain ⟨hcz24_0, hcz24_1, hcz24_2, hcz24_3, hcz24_4⟩ := cz5_ BK107.out
        obtain ⟨hfz24_0, hfz24_1, hfz24_2, hfz24_3, hfz24_4⟩ := fz5_ BK107.out
        go_wp2
        repeat (go_quiet (fail); try go_wp2)
        go_meet
        case rel => exact ⟨_, (false), (by first | rfl | (simp; done) | (simp [*]; done)), H', ⟨by have := HJ2.out; have := HK2.out; first | omega | exact Nat.le_refl _⟩, ⟨rz HO_6.out⟩, ⟨by (with_reducible repeat (first | refine cw_ ?_ _ | refine cc_ ?_ | refine cv_ ?_ _)); exact BK107.out⟩, ⟨bq⟩⟩
       rw [if_pos c22] at H
       have c22b0 : (((ak_ l1 x22_2).f0) == 1) = true := beq_iff_eq.mpr c22
       have c22b1 : (((ak_ l1 x22_2).f0) != 1) = false := bne_eq_false_iff_eq.mpr c22
       clear c22
       (first | rw [c22b0] | (simp only [i64_w, i32_w]; rw [c22b0]) | (simp only [c22b1, Bool.not_true, Bool.not_false]) | (simp only [c22b0, Bool.not_true, Bool.not_false]) | skip)
       have H' := Aside0.mk H
       clear H
       obtain ⟨hcz23_0, hcz23_1, hcz23_2, hcz23_3, hcz23_4⟩ := cz5_ BK107.out
       obtain ⟨hfz23_0, hfz23_1, hfz23_2, hfz23_3, hfz23_4⟩ := fz5_ BK107.out
       go_wp2
       repeat (go_quiet (fail); try go_wp2)
       go_meet
       case rel => exact ⟨_, (t109), (by first | rfl | (simp; done) | (simp [*]; done)), H', ⟨by have := HJ2.out; have := HK2.out; first | omega | exact Nat.le_refl _⟩, ⟨rz HO_6.out⟩, ⟨by (with_reducible repeat (first | refine cw_ ?_ _ | refine cc_ ?_ | refine cv_ ?_ _)); exact BK107.out⟩, ⟨bq⟩⟩
      case rest =>
       clear HC17
       obtain ⟨kq, x39_16, rfl, HA, HJ16, HO_6, BK107, HB⟩ := hcut
       cases kq with
       | zero => exact absurd HA.out (by simp [aq_.j2])
       | succ kj16 =>
        have H := HA.out
        clear HA
        simp only [aq_.j2] at H
        by_cases c25 : x39_16 = true
        rotate_left
        ·replace c25 := Bool.eq_false_iff.mpr c25
         subst c25
         have H1 : (if ((ak_ l1 x22_2).f0) = 1 then (aq_.j3 kj16 x6_2 t108 t109 l1 (l1.length : Int) x22_2 ((x6_2.length : Int) == 24) ((ak_ l1 x22_2).f0) ((ak_ l1 x22_2).f1.f0) ((ak_ l1 x22_2).f1.f1.f0) ((ak_ l1 x22_2).f1.f1.f1) ((ak_ l1 x22_2).f1.f1.f2)) else (aq_.j3 kj16 x6_2 t108 t109 l1 (l1.length : Int) x22_2 false ((ak_ l1 x22_2).f0) ((ak_ l1 x22_2).f1.f0) ((ak_ l1 x22_2).f1.f1.f0) ((ak_ l1 x22_2).f1.f1.f1) ((ak_ l1 x22_2).f1.f1.f2))) = some (r1, r2) := by rw [if_neg (show ¬ (false = true) by decide)] at H; exact H
         clear H
         have H := H1
         clear H1
         have HC32 := Aside0.mk H
         clear H
         go_upto_region 11 with (fail)
         repeat (go_quiet (fail); go_upto_region 11 with (fail))
         go_cut [51] (fun v51 wc => ∃ (kq : Nat) (x51_31 : Bool), v51 = .bool x51_31 ∧ Aside0 (aq_.j3 kq x6_2 t108 t109 l1 (l1.length : Int) x22_2 x51_31 ((ak_ l1 x22_2).f0) ((ak_ l1 x22_2).f1.f0) ((ak_ l1 x22_2).f1.f1.f0) ((ak_ l1 x22_2).f1.f1.f1) ((ak_ l1 x22_2).f1.f1.f2) = some (r1, r2)) ∧ Aside0 (kq ≤ kj16) ∧ Aside0 (Kd.R k59 59 wc w.heap.size (fun _ => True) (.slice Ao20 x6_2.length co20) x6_2) ∧ Aside0 (wc.heap[gb107]? = some (.cells #[.int .i64 ((ak_ l1 x22_2).f0), .string ((ak_ l1 x22_2).f1.f0), .string ((ak_ l1 x22_2).f1.f1.f0), .int .i64 ((ak_ l1 x22_2).f1.f1.f1), .int .i64 ((ak_ l1 x22_2).f1.f1.f2)] 63 (0, 0))) ∧ Aside0 (Below w.heap.size w wc))
         case first =>
          have H := HC32.out
          clear HC32
          by_cases c33 : ((ak_ l1 x22_2).f0) = 1
          rotate_left
          ·rw [if_neg c33] at H
           have c33b0 : (((ak_ l1 x22_2).f0) == 1) = false := beq_eq_false_iff_ne.mpr c33
           have c33b1 : (((ak_ l1 x22_2).f0) != 1) = true := bne_iff_ne.mpr c33
           (first | rw [c33b0] | (simp only [i64_w, i32_w]; rw [c33b0]) | (simp only [c33b1, Bool.not_true, Bool.not_false]) | (simp only [c33b0, Bool.not_true, Bool.not_false]) | skip)
           have H' := Aside0.mk H
           clear H
           obtain ⟨hcz35_0, hcz35_1, hcz35_2, hcz35_3, hcz35_4⟩ := cz5_ BK107.out
           obtain ⟨hfz35_0, hfz35_1, hfz35_2, hfz35_3, hfz35_4⟩ := fz5_ BK107.out
           go_wp2
           repeat (go_quiet (fail); try go_wp2)
           go_meet
           case rel => exact ⟨_, (false), (by first | rfl | (simp; done) | (simp [*]; done)), H', ⟨by have := HJ2.out; have := HK2.out; have := HJ16.out; first | omega | exact Nat.le_refl _⟩, ⟨rz HO_6.out⟩, ⟨by (with_reducible repeat (first | refine cw_ ?_ _ | refine cc_ ?_ | refine cv_ ?_ _)); exact BK107.out⟩, ⟨bq⟩⟩
          rw [if_pos c33] at H
          have c33b0 : (((ak_ l1 x22_2).f0) == 1) = true := beq_iff_eq.mpr c33
          have c33b1 : (((ak_ l1 x22_2).f0) != 1) = false := bne_eq_false_iff_eq.mpr c33
          clear c33
          (first | rw [c33b0] | (simp only [i64_w, i32_w]; rw [c33b0]) | (simp only [c33b1, Bool.not_true, Bool.not_false]) | (simp only [c33b0, Bool.not_true, Bool.not_false]) | skip)
          have H' := Aside0.mk H
          clear H
          obtain ⟨hcz34_0, hcz34_1, hcz34_2, hcz34_3, hcz34_4⟩ := cz5_ BK107.out
          obtain ⟨hfz34_0, hfz34_1, hfz34_2, hfz34_3, hfz34_4⟩ := fz5_ BK107.out
          go_wp2
          repeat (go_quiet (fail); try go_wp2)
          go_meet
          case rel => exact ⟨_, (((x6_2.length : Int) == 24)), (by first | rfl | (simp; done) | (simp [*]; done)), H', ⟨by have := HJ2.out; have := HK2.out; have := HJ16.out; first | omega | exact Nat.le_refl _⟩, ⟨rz HO_6.out⟩, ⟨by (with_reducible repeat (first | refine cw_ ?_ _ | refine cc_ ?_ | refine cv_ ?_ _)); exact BK107.out⟩, ⟨bq⟩⟩
         case rest =>
          clear HC32
          obtain ⟨kq, x51_31, rfl, HA, HJ31, HO_6, BK107, HB⟩ := hcut
          cases kq with
          | zero => exact absurd HA.out (by simp [aq_.j3])
          | succ kj31 =>
           have H := HA.out
           clear HA
           simp only [aq_.j3] at H
           by_cases c36 : x51_31 = true
           rotate_left
           ·replace c36 := Bool.eq_false_iff.mpr c36
            subst c36
            have H1 : (if ((ak_ l1 x22_2).f0) = 1 then ((cA_.f x6_2 t108 (([(⟨((ak_ l1 x22_2).f1.f0), (⟨((ak_ l1 x22_2).f1.f1.f0), ((ak_ l1 x22_2).f1.f1.f1), ((ak_ l1 x22_2).f1.f1.f2)⟩ : S57)⟩ : S59)] : List (S59)))).bind fun t114 => (aq_.l0 kj31 t114 l1 (l1.length : Int) (wrap64 (x22_2 + 1)))) else (if t109 = true then (if 0 ≤ t108 then (if t108 < (x6_2.length : Int) then (if (!((((aa_ x6_2 t108).f0).toList) == ((ak_ l1 x22_2).f1.f0).toList) || ((!((((aa_ x6_2 t108).f1.f0).toList) == ((ak_ l1 x22_2).f1.f1.f0).toList) || (!(((aa_ x6_2 t108).f1.f1) == ((ak_ l1 x22_2).f1.f1.f1)) || (!(((aa_ x6_2 t108).f1.f2) == ((ak_ l1 x22_2).f1.f1.f2))))))) = true then (some (([] : List (S59)), 6)) else ((cz_.f x6_2 t108 (wrap64 (t108 + 1))).bind fun t118 => (aq_.l0 kj31 t118 l1 (l1.length : Int) (wrap64 (x22_2 + 1))))) else (none)) else (none)) else (some (([] : List (S59)), 3)))) = some (r1, r2) := by rw [if_neg (show ¬ (false = true) by decide)] at H; exact H
            clear H
            have H := H1
            clear H1
            by_cases c37 : ((ak_ l1 x22_2).f0) = 1
            rotate_left
            ·rw [if_neg c37] at H
             have c37b0 : (((ak_ l1 x22_2).f0) == 1) = false := beq_eq_false_iff_ne.mpr c37
             have c37b1 : (((ak_ l1 x22_2).f0) != 1) = true := bne_iff_ne.mpr c37
             by_cases c44 : t109 = true
             rotate_left
             ·replace c44 := Bool.eq_false_iff.mpr c44
              subst c44
              have H1 : (some (([] : List (S59)), 3)) = some (r1, r2) := by rw [if_neg (show ¬ (false = true) by decide)] at H; exact H
              clear H
              have H := H1
              clear H1
              simp only [Option.some.injEq, Prod.mk.injEq] at H
              obtain ⟨rfl, rfl⟩ := H
              obtain ⟨hcz52_0, hcz52_1, hcz52_2, hcz52_3, hcz52_4⟩ := cz5_ BK107.out
              obtain ⟨hfz52_0, hfz52_1, hfz52_2, hfz52_3, hfz52_4⟩ := fz5_ BK107.out
              go_wp2
              repeat (go_quiet (fail); try go_wp2)
              go_ret2
              exact ⟨_, by first | rfl | (simp [*, ap_, ao_] <;> rfl), by first | exact Kd.R_nil _ _ _ _ _ | exact Kd.N_nil _ _ _ _ _ | exact Kd.V_nil _ _ _ _ _ | exact Kd.Q_nil _ _ _ _ _ | exact Kd.S_nil _ _ _ _ _, bq⟩
             subst c44
             have H1 : (if 0 ≤ t108 then (if t108 < (x6_2.length : Int) then (if (!((((aa_ x6_2 t108).f0).toList) == ((ak_ l1 x22_2).f1.f0).toList) || ((!((((aa_ x6_2 t108).f1.f0).toList) == ((ak_ l1 x22_2).f1.f1.f0).toList) || (!(((aa_ x6_2 t108).f1.f1) == ((ak_ l1 x22_2).f1.f1.f1)) || (!(((aa_ x6_2 t108).f1.f2) == ((ak_ l1 x22_2).f1.f1.f2))))))) = true then (some (([] : List (S59)), 6)) else ((cz_.f x6_2 t108 (wrap64 (t108 + 1))).bind fun t118 => (aq_.l0 kj31 t118 l1 (l1.length : Int) (wrap64 (x22_2 + 1))))) else (none)) else (none)) = some (r1, r2) := by rw [if_pos rfl] at H; exact H
             clear H
             have H := H1
             clear H1
             by_cases c45 : 0 ≤ t108
             rotate_left
             ·rw [if_neg c45] at H
              exact absurd H (by simp)
             rw [if_pos c45] at H
             have c45b0 : decide (0 ≤ t108) = true := decide_eq_true c45
             clear c45
             by_cases c46 : t108 < (x6_2.length : Int)
             rotate_left
             ·rw [if_neg c46] at H
              exact absurd H (by simp)
             rw [if_pos c46] at H
             have c46b0 : decide (t108 < (x6_2.length : Int)) = true := decide_eq_true c46
             clear c46
             by_cases c47 : (!((((aa_ x6_2 t108).f0).toList) == ((ak_ l1 x22_2).f1.f0).toList) || ((!((((aa_ x6_2 t108).f1.f0).toList) == ((ak_ l1 x22_2).f1.f1.f0).toList) || (!(((aa_ x6_2 t108).f1.f1) == ((ak_ l1 x22_2).f1.f1.f1)) || (!(((aa_ x6_2 t108).f1.f2) == ((ak_ l1 x22_2).f1.f1.f2))))))) = true
             rotate_left
             ·rw [if_neg c47] at H
              have c47b0 : (!((((aa_ x6_2 t108).f0).toList) == ((ak_ l1 x22_2).f1.f0).toList) || ((!((((aa_ x6_2 t108).f1.f0).toList) == ((ak_ l1 x22_2).f1.f1.f0).toList) || (!(((aa_ x6_2 t108).f1.f1) == ((ak_ l1 x22_2).f1.f1.f1)) || (!(((aa_ x6_2 t108).f1.f2) == ((ak_ l1 x22_2).f1.f1.f2))))))) = false := by simpa using c47
              clear c47
              replace H := Option.bind_eq_some_iff.mp H
              obtain ⟨t118, A490, H⟩ := H
              (try dsimp only at H)
              have A49 := Aside0.mk A490
              clear A490
              have H' := Aside0.mk H
              clear H
              obtain ⟨hcz50_0, hcz50_1, hcz50_2, hcz50_3, hcz50_4⟩ := cz5_ BK107.out
              obtain ⟨hfz50_0, hfz50_1, hfz50_2, hfz50_3, hfz50_4⟩ := fz5_ BK107.out
              have p117 : 0 ≤ (t108 : Int) := of_decide_eq_true (by assumption)
              have q117 : t108 < (x6_2.length : Int) := of_decide_eq_true (by assumption)
              obtain ⟨ad117, e117, hx117_0, hx117_1, hx117_2, hx117_3⟩ := cH_ (Kd.aj_ HO_6.out).2.2 t108 p117 q117
              cases e117
              replace p117 := eq_true p117
              replace q117 := eq_true q117
              go_wp2_with (first | (go_at_call 33; (with_reducible refine (cz_.calls (fun k_ => some k_ = (.slice (some ad117) x6_2.length co20 : Value).ownBlock) (.slice (some ad117) x6_2.length co20) x6_2 t108 (wrap64 (t108 + 1)) t118 w _ ?side1 ?side2 A49.out).mono ?_); (case side1 => repeat (first | (with_reducible first | exact HB.out | apply bA_ | apply bN_ | apply bD_ | refine af_ ?_ GE107.out))); (case side2 => exact Kd.dy_ rfl HO_6.out); rintro e w51 ⟨v119, rfl, ho0, hb, hkp⟩; replace BK107 := Aside0.mk (blk_kept (kz BK107.out) hkp (fun hs_ => (fun e_ => (Kd.R_ne HO_6.out BK107.out (by decide)) e_) hs_)); have HO120 := Aside0.mk (Kd.aT_ (ok' := fun k_ => True) ho0 (fun k_ hk_ => trivial)); replace HB := Aside0.mk (hb); clear HO_6; (try clear hb); (try clear hkp); (try clear ho0)))
              repeat (go_quiet (first | (go_at_call 33; (with_reducible refine (cz_.calls (fun k_ => some k_ = (.slice (some ad117) x6_2.length co20 : Value).ownBlock) (.slice (some ad117) x6_2.length co20) x6_2 t108 (wrap64 (t108 + 1)) t118 w _ ?side1 ?side2 A49.out).mono ?_); (case side1 => repeat (first | (with_reducible first | exact HB.out | apply bA_ | apply bN_ | apply bD_ | refine af_ ?_ GE107.out))); (case side2 => exact Kd.dy_ rfl HO_6.out); rintro e w51 ⟨v119, rfl, ho0, hb, hkp⟩; replace BK107 := Aside0.mk (blk_kept (kz BK107.out) hkp (fun hs_ => (fun e_ => (Kd.R_ne HO_6.out BK107.out (by decide)) e_) hs_)); have HO120 := Aside0.mk (Kd.aT_ (ok' := fun k_ => True) ho0 (fun k_ hk_ => trivial)); replace HB := Aside0.mk (hb); clear HO_6; (try clear hb); (try clear hkp); (try clear ho0))); try go_wp2_with (first | (go_at_call 33; (with_reducible refine (cz_.calls (fun k_ => some k_ = (.slice (some ad117) x6_2.length co20 : Value).ownBlock) (.slice (some ad117) x6_2.length co20) x6_2 t108 (wrap64 (t108 + 1)) t118 w _ ?side1 ?side2 A49.out).mono ?_); (case side1 => repeat (first | (with_reducible first | exact HB.out | apply bA_ | apply bN_ | apply bD_ | refine af_ ?_ GE107.out))); (case side2 => exact Kd.dy_ rfl HO_6.out); rintro e w51 ⟨v119, rfl, ho0, hb, hkp⟩; replace BK107 := Aside0.mk (blk_kept (kz BK107.out) hkp (fun hs_ => (fun e_ => (Kd.R_ne HO_6.out BK107.out (by decide)) e_) hs_)); have HO120 := Aside0.mk (Kd.aT_ (ok' := fun k_ => True) ho0 (fun k_ hk_ => trivial)); replace HB := Aside0.mk (hb); clear HO_6; (try clear hb); (try clear hkp); (try clear ho0))))
              go_roundg kj31
              case measure => have := HJ2.out; have := HK2.out; have := HJ16.out; have := HJ31.out; omega
              case rel => exact ⟨(t118), (wrap64 (x22_2 + 1)), (by first | rfl | (simp; done) | (simp [*]; done)), H', ⟨by have := HJ2.out; have := HK2.out; have := HJ16.out; have := HJ31.out; omega⟩, ⟨rz HO120.out⟩, ⟨bq⟩⟩
             rw [if_pos c47] at H
             have c47b0 : (!((((aa_ x6_2 t108).f0).toList) == ((ak_ l1 x22_2).f1.f0).toList) || ((!((((aa_ x6_2 t108).f1.f0).toList) == ((ak_ l1 x22_2).f1.f1.f0).toList) || (!(((aa_ x6_2 t108).f1.f1) == ((ak_ l1 x22_2).f1.f1.f1)) || (!(((aa_ x6_2 t108).f1.f2) == ((ak_ l1 x22_2).f1.f1.f2))))))) = true := c47
             clear c47
             simp only [Option.some.injEq, Prod.mk.injEq] at H
             obtain ⟨rfl, rfl⟩ := H
             obtain ⟨hcz48_0, hcz48_1, hcz48_2, hcz48_3, hcz48_4⟩ := cz5_ BK107.out
             obtain ⟨hfz48_0, hfz48_1, hfz48_2, hfz48_3, hfz48_4⟩ := fz5_ BK107.out
             have p117 : 0 ≤ (t108 : Int) := of_decide_eq_true (by assumption)
             have q117 : t108 < (x6_2.length : Int) := of_decide_eq_true (by assumption)
             obtain ⟨ad117, e117, hx117_0, hx117_1, hx117_2, hx117_3⟩ := cH_ (Kd.aj_ HO_6.out).2.2 t108 p117 q117
             cases e117
             replace p117 := eq_true p117
             replace q117 := eq_true q117
             go_wp2
             repeat (go_quiet (fail); try go_wp2)
             go_ret2
             exact ⟨_, by first | rfl | (simp [*, ap_, ao_] <;> rfl), by first | exact Kd.R_nil _ _ _ _ _ | exact Kd.N_nil _ _ _ _ _ | exact Kd.V_nil _ _ _ _ _ | exact Kd.Q_nil _ _ _ _ _ | exact Kd.S_nil _ _ _ _ _, bq⟩
            rw [if_pos c37] at H
            have c37b0 : (((ak_ l1 x22_2).f0) == 1) = true := beq_iff_eq.mpr c37
            have c37b1 : (((ak_ l1 x22_2).f0) != 1) = false := bne_eq_false_iff_eq.mpr c37
            clear c37
            obtain ⟨y111, hy111⟩ : ∃ y_ : List (S59), y_ = (([(⟨((ak_ l1 x22_2).f1.f0), (⟨((ak_ l1 x22_2).f1.f1.f0), ((ak_ l1 x22_2).f1.f1.f1), ((ak_ l1 x22_2).f1.f1.f2)⟩ : S57)⟩ : S59)] : List (S59))) := ⟨_, rfl⟩
            replace H : ((cA_.f x6_2 t108 y111).bind fun t114 => (aq_.l0 kj31 t114 l1 (l1.length : Int) (wrap64 (x22_2 + 1)))) = some (r1, r2) := by first | (rw [hy111]; with_reducible exact H) | (have H2_ := (Option.bind_some _ _).symm.trans H; rw [hy111]; with_reducible exact H2_) | (have H2_ := (Option.bind_some _ _).symm.trans H; with_reducible exact H2_) | with_reducible exact H | (rw [hy111]; exact H) | exact H
            have Ny111 := Aside0.mk hy111
            clear hy111
            replace H := Option.bind_eq_some_iff.mp H
            obtain ⟨t114, A380, H⟩ := H
            (try dsimp only at H)
            have A38 := Aside0.mk A380
            clear A380
            have H' := Aside0.mk H
            clear H
            obtain ⟨hcz39_0, hcz39_1, hcz39_2, hcz39_3, hcz39_4⟩ := cz5_ BK107.out
            obtain ⟨hfz39_0, hfz39_1, hfz39_2, hfz39_3, hfz39_4⟩ := fz5_ BK107.out
            go_wp2_with (first | ((with_reducible refine aL_ (N := 68) rfl ?_); (try (refine dh_ (by rfl) ?_; dsimp only)); refine Kd.R_lit k59 _ 59 ?hg (N := 68) ?hd (xs := ([(⟨((ak_ l1 x22_2).f1.f0), (⟨((ak_ l1 x22_2).f1.f1.f0), ((ak_ l1 x22_2).f1.f1.f1), ((ak_ l1 x22_2).f1.f1.f2)⟩ : S57)⟩ : S59)] : List (S59))) (inner := [.string ((ak_ l1 x22_2).f1.f0), .string ((ak_ l1 x22_2).f1.f1.f0), .int .i64 ((ak_ l1 x22_2).f1.f1.f1), .int .i64 ((ak_ l1 x22_2).f1.f1.f2)]) (ok := fun _ => True) (okp := fun _ => True) ?hr ?hp (fun _ hk => hk) trivial (Below.refl _ _) (Nat.le_refl _) (by simp) ?_; (case hd => rfl); (case hg => rfl); (case hr => (go_simp; try rfl)); (case hp => exact (Reps.c4 (show Kd.M k59 _ _ _ (⟨((ak_ l1 x22_2).f1.f0), (⟨((ak_ l1 x22_2).f1.f1.f0), ((ak_ l1 x22_2).f1.f1.f1), ((ak_ l1 x22_2).f1.f1.f2)⟩ : S57)⟩ : S59) [.string ((ak_ l1 x22_2).f1.f0), .string ((ak_ l1 x22_2).f1.f1.f0), .int .i64 ((ak_ l1 x22_2).f1.f1.f1), .int .i64 ((ak_ l1 x22_2).f1.f1.f2)] from (cR_ _ _ _ (⟨((ak_ l1 x22_2).f1.f0), (⟨((ak_ l1 x22_2).f1.f1.f0), ((ak_ l1 x22_2).f1.f1.f1), ((ak_ l1 x22_2).f1.f1.f2)⟩ : S57)⟩ : S59) )) (Reps.none _ _))); intro v112 w40 ho41 hb hg_ hnew_; clear hg_ hnew_; (first | rw [← Ny111.out] at ho41 | (simp only [Int.reduceToNat] at ho41; rw [← Ny111.out] at ho41)); have HO113 := Aside0.mk (Kd.bi_ (Kd.bG_ ho41 (Kd.R_lt (rz HO_6.out))) (ag_ (bq))); replace HO_6 := Aside0.mk (Kd.aY_ (rz HO_6.out) (Kd.bh_ ho41) hb); replace BK107 := Aside0.mk (aS_ (kz BK107.out) hb); replace HB := Aside0.mk (ab_ (bq) hb); clear hb ho41; obtain ⟨Ao42, co42, eo42⟩ := Kd.bo_ HO113.out; subst eo42) | (go_at_call 32; (with_reducible refine (cA_.calls (fun k_ => some k_ = (.slice Ao20 x6_2.length co20 : Value).ownBlock) (.slice Ao20 x6_2.length co20) x6_2 t108 (fun k_ => some k_ = (.slice Ao42 y111.length co42 : Value).ownBlock) (.slice Ao42 y111.length co42) y111 t114 w _ ?side1 ?side2 ?side3 ?side4 ?side5 A38.out).mono ?_); (case side1 => repeat (first | (with_reducible first | exact HB.out | apply bA_ | apply bN_ | apply bD_ | refine af_ ?_ GE107.out))); (case side2 => exact Kd.dy_ rfl HO_6.out); (case side3 => exact fun k_ e_ => (HO_6.out.1 k_ e_.symm).2); (case side4 => exact Kd.dy_ rfl HO113.out); (case side5 => exact fun k_ e_ => (HO113.out.1 k_ e_.symm).2); rintro e w43 ⟨v115, rfl, ho0, hb, hkp⟩; replace BK107 := Aside0.mk (blk_kept (kz BK107.out) hkp (fun hs_ => Or.elim hs_ (fun e_ => (fun e_ => (Kd.R_ne HO_6.out BK107.out (by decide)) e_) e_) (fun e_ => (fun e_ => (Kd.R_ne HO113.out BK107.out (by decide)) e_) e_))); have HO116 := Aside0.mk (Kd.aT_ (ok' := fun k_ => True) ho0 (fun k_ hk_ => trivial)); replace HB := Aside0.mk (hb); clear HO113; clear HO_6; (try clear hb); (try clear hkp); (try clear ho0)))
            repeat (go_quiet (first | ((with_reducible refine aL_ (N := 68) rfl ?_); (try (refine dh_ (by rfl) ?_; dsimp only)); refine Kd.R_lit k59 _ 59 ?hg (N := 68) ?hd (xs := ([(⟨((ak_ l1 x22_2).f1.f0), (⟨((ak_ l1 x22_2).f1.f1.f0), ((ak_ l1 x22_2).f1.f1.f1), ((ak_ l1 x22_2).f1.f1.f2)⟩ : S57)⟩ : S59)] : List (S59))) (inner := [.string ((ak_ l1 x22_2).f1.f0), .string ((ak_ l1 x22_2).f1.f1.f0), .int .i64 ((ak_ l1 x22_2).f1.f1.f1), .int .i64 ((ak_ l1 x22_2).f1.f1.f2)]) (ok := fun _ => True) (okp := fun _ => True) ?hr ?hp (fun _ hk => hk) trivial (Below.refl _ _) (Nat.le_refl _) (by simp) ?_; (case hd => rfl); (case hg => rfl); (case hr => (go_simp; try rfl)); (case hp => exact (Reps.c4 (show Kd.M k59 _ _ _ (⟨((ak_ l1 x22_2).f1.f0), (⟨((ak_ l1 x22_2).f1.f1.f0), ((ak_ l1 x22_2).f1.f1.f1), ((ak_ l1 x22_2).f1.f1.f2)⟩ : S57)⟩ : S59) [.string ((ak_ l1 x22_2).f1.f0), .string ((ak_ l1 x22_2).f1.f1.f0), .int .i64 ((ak_ l1 x22_2).f1.f1.f1), .int .i64 ((ak_ l1 x22_2).f1.f1.f2)] from (cR_ _ _ _ (⟨((ak_ l1 x22_2).f1.f0), (⟨((ak_ l1 x22_2).f1.f1.f0), ((ak_ l1 x22_2).f1.f1.f1), ((ak_ l1 x22_2).f1.f1.f2)⟩ : S57)⟩ : S59) )) (Reps.none _ _))); intro v112 w40 ho41 hb hg_ hnew_; clear hg_ hnew_; (first | rw [← Ny111.out] at ho41 | (simp only [Int.reduceToNat] at ho41; rw [← Ny111.out] at ho41)); have HO113 := Aside0.mk (Kd.bi_ (Kd.bG_ ho41 (Kd.R_lt (rz HO_6.out))) (ag_ (bq))); replace HO_6 := Aside0.mk (Kd.aY_ (rz HO_6.out) (Kd.bh_ ho41) hb); replace BK107 := Aside0.mk (aS_ (kz BK107.out) hb); replace HB := Aside0.mk (ab_ (bq) hb); clear hb ho41; obtain ⟨Ao42, co42, eo42⟩ := Kd.bo_ HO113.out; subst eo42) | (go_at_call 32; (with_reducible refine (cA_.calls (fun k_ => some k_ = (.slice Ao20 x6_2.length co20 : Value).ownBlock) (.slice Ao20 x6_2.length co20) x6_2 t108 (fun k_ => some k_ = (.slice Ao42 y111.length co42 : Value).ownBlock) (.slice Ao42 y111.length co42) y111 t114 w _ ?side1 ?side2 ?side3 ?side4 ?side5 A38.out).mono ?_); (case side1 => repeat (first | (with_reducible first | exact HB.out | apply bA_ | apply bN_ | apply bD_ | refine af_ ?_ GE107.out))); (case side2 => exact Kd.dy_ rfl HO_6.out); (case side3 => exact fun k_ e_ => (HO_6.out.1 k_ e_.symm).2); (case side4 => exact Kd.dy_ rfl HO113.out); (case side5 => exact fun k_ e_ => (HO113.out.1 k_ e_.symm).2); rintro e w43 ⟨v115, rfl, ho0, hb, hkp⟩; replace BK107 := Aside0.mk (blk_kept (kz BK107.out) hkp (fun hs_ => Or.elim hs_ (fun e_ => (fun e_ => (Kd.R_ne HO_6.out BK107.out (by decide)) e_) e_) (fun e_ => (fun e_ => (Kd.R_ne HO113.out BK107.out (by decide)) e_) e_))); have HO116 := Aside0.mk (Kd.aT_ (ok' := fun k_ => True) ho0 (fun k_ hk_ => trivial)); replace HB := Aside0.mk (hb); clear HO113; clear HO_6; (try clear hb); (try clear hkp); (try clear ho0))); try go_wp2_with (first | ((with_reducible refine aL_ (N := 68) rfl ?_); (try (refine dh_ (by rfl) ?_; dsimp only)); refine Kd.R_lit k59 _ 59 ?hg (N := 68) ?hd (xs := ([(⟨((ak_ l1 x22_2).f1.f0), (⟨((ak_ l1 x22_2).f1.f1.f0), ((ak_ l1 x22_2).f1.f1.f1), ((ak_ l1 x22_2).f1.f1.f2)⟩ : S57)⟩ : S59)] : List (S59))) (inner := [.string ((ak_ l1 x22_2).f1.f0), .string ((ak_ l1 x22_2).f1.f1.f0), .int .i64 ((ak_ l1 x22_2).f1.f1.f1), .int .i64 ((ak_ l1 x22_2).f1.f1.f2)]) (ok := fun _ => True) (okp := fun _ => True) ?hr ?hp (fun _ hk => hk) trivial (Below.refl _ _) (Nat.le_refl _) (by simp) ?_; (case hd => rfl); (case hg => rfl); (case hr => (go_simp; try rfl)); (case hp => exact (Reps.c4 (show Kd.M k59 _ _ _ (⟨((ak_ l1 x22_2).f1.f0), (⟨((ak_ l1 x22_2).f1.f1.f0), ((ak_ l1 x22_2).f1.f1.f1), ((ak_ l1 x22_2).f1.f1.f2)⟩ : S57)⟩ : S59) [.string ((ak_ l1 x22_2).f1.f0), .string ((ak_ l1 x22_2).f1.f1.f0), .int .i64 ((ak_ l1 x22_2).f1.f1.f1), .int .i64 ((ak_ l1 x22_2).f1.f1.f2)] from (cR_ _ _ _ (⟨((ak_ l1 x22_2).f1.f0), (⟨((ak_ l1 x22_2).f1.f1.f0), ((ak_ l1 x22_2).f1.f1.f1), ((ak_ l1 x22_2).f1.f1.f2)⟩ : S57)⟩ : S59) )) (Reps.none _ _))); intro v112 w40 ho41 hb hg_ hnew_; clear hg_ hnew_; (first | rw [← Ny111.out] at ho41 | (simp only [Int.reduceToNat] at ho41; rw [← Ny111.out] at ho41)); have HO113 := Aside0.mk (Kd.bi_ (Kd.bG_ ho41 (Kd.R_lt (rz HO_6.out))) (ag_ (bq))); replace HO_6 := Aside0.mk (Kd.aY_ (rz HO_6.out) (Kd.bh_ ho41) hb); replace BK107 := Aside0.mk (aS_ (kz BK107.out) hb); replace HB := Aside0.mk (ab_ (bq) hb); clear hb ho41; obtain ⟨Ao42, co42, eo42⟩ := Kd.bo_ HO113.out; subst eo42) | (go_at_call 32; (with_reducible refine (cA_.calls (fun k_ => some k_ = (.slice Ao20 x6_2.length co20 : Value).ownBlock) (.slice Ao20 x6_2.length co20) x6_2 t108 (fun k_ => some k_ = (.slice Ao42 y111.length co42 : Value).ownBlock) (.slice Ao42 y111.length co42) y111 t114 w _ ?side1 ?side2 ?side3 ?side4 ?side5 A38.out).mono ?_); (case side1 => repeat (first | (with_reducible first | exact HB.out | apply bA_ | apply bN_ | apply bD_ | refine af_ ?_ GE107.out))); (case side2 => exact Kd.dy_ rfl HO_6.out); (case side3 => exact fun k_ e_ => (HO_6.out.1 k_ e_.symm).2); (case side4 => exact Kd.dy_ rfl HO113.out); (case side5 => exact fun k_ e_ => (HO113.out.1 k_ e_.symm).2); rintro e w43 ⟨v115, rfl, ho0, hb, hkp⟩; replace BK107 := Aside0.mk (blk_kept (kz BK107.out) hkp (fun hs_ => Or.elim hs_ (fun e_ => (fun e_ => (Kd.R_ne HO_6.out BK107.out (by decide)) e_) e_) (fun e_ => (fun e_ => (Kd.R_ne HO113.out BK107.out (by decide)) e_) e_))); have HO116 := Aside0.mk (Kd.aT_ (ok' := fun k_ => True) ho0 (fun k_ hk_ => trivial)); replace HB := Aside0.mk (hb); clear HO113; clear HO_6; (try clear hb); (try clear hkp); (try clear ho0))))
            go_roundg kj31
            case measure => have := HJ2.out; have := HK2.out; have := HJ16.out; have := HJ31.out; omega
            case rel => exact ⟨(t114), (wrap64 (x22_2 + 1)), (by first | rfl | (simp; done) | (simp [*]; done)), H', ⟨by have := HJ2.out; have := HK2.out; have := HJ16.out; have := HJ31.out; omega⟩, ⟨rz HO116.out⟩, ⟨bq⟩⟩
           subst c36
           have H1 : (some (([] : List (S59)), 5)) = some (r1, r2) := by rw [if_pos rfl] at H; exact H
           clear H
           have H := H1
           clear H1
           simp only [Option.some.injEq, Prod.mk.injEq] at H
           obtain ⟨rfl, rfl⟩ := H
           go_wp2
           repeat (go_quiet (fail); try go_wp2)
           go_ret2
           exact ⟨_, by first | rfl | (simp [*, ap_, ao_] <;> rfl), by first | exact Kd.R_nil _ _ _ _ _ | exact Kd.N_nil _ _ _ _ _ | exact Kd.V_nil _ _ _ _ _ | exact Kd.Q_nil _ _ _ _ _ | exact Kd.S_nil _ _ _ _ _, bq⟩
        subst c25
        have H1 : (if 0 ≤ t108 then (if t108 < (x6_2.length : Int) then (aq_.l0 kj16 (x6_2.set (t108 : Int).toNat (⟨((ak_ l1 x22_2).f1.f0), (⟨((ak_ l1 x22_2).f1.f1.f0), ((ak_ l1 x22_2).f1.f1.f1), ((ak_ l1 x22_2).f1.f1.f2)⟩ : S57)⟩ : S59)) l1 (l1.length : Int) (wrap64 (x22_2 + 1))) else (none)) else (none)) = some (r1, r2) := by rw [if_pos rfl] at H; exact H
        clear H
        have H := H1
        clear H1
        by_cases c26 : 0 ≤ t108
        rotate_left
        ·rw [if_neg c26] at H
         exact absurd H (by simp)
        rw [if_pos c26] at H
        have c26b0 : decide (0 ≤ t108) = true := decide_eq_true c26
        clear c26
        by_cases c27 : t108 < (x6_2.length : Int)
        rotate_left
        ·rw [if_neg c27] at H
         exact absurd H (by simp)
        rw [if_pos c27] at H
        have c27b0 : decide (t108 < (x6_2.length : Int)) = true := decide_eq_true c27
        clear c27
        obtain ⟨y110, hy110⟩ : ∃ y_ : List (S59), y_ = (x6_2.set (t108 : Int).toNat (⟨((ak_ l1 x22_2).f1.f0), (⟨((ak_ l1 x22_2).f1.f1.f0), ((ak_ l1 x22_2).f1.f1.f1), ((ak_ l1 x22_2).f1.f1.f2)⟩ : S57)⟩ : S59)) := ⟨_, rfl⟩
        replace H : (aq_.l0 kj16 y110 l1 (l1.length : Int) (wrap64 (x22_2 + 1))) = some (r1, r2) := by first | (rw [hy110]; with_reducible exact H) | (have H2_ := (Option.bind_some _ _).symm.trans H; rw [hy110]; with_reducible exact H2_) | (have H2_ := (Option.bind_some _ _).symm.trans H; with_reducible exact H2_) | with_reducible exact H | (rw [hy110]; exact H) | exact H
        have Ny110 := Aside0.mk hy110
        clear hy110
        have H' := Aside0.mk H
        clear H
        obtain ⟨hcz29_0, hcz29_1, hcz29_2, hcz29_3, hcz29_4⟩ := cz5_ BK107.out
        obtain ⟨hfz29_0, hfz29_1, hfz29_2, hfz29_3, hfz29_4⟩ := fz5_ BK107.out
        have p28 : 0 ≤ (t108 : Int) := of_decide_eq_true (by assumption)
        have q28 : (t108 : Int) < ((x6_2.length : Int) : Int) := of_decide_eq_true (by assumption)
        obtain ⟨go28, co28, eo28, gb28, gl28, cl28, HG28⟩ := Kd.R_form HO_6.out (by omega)
        (first | cases eo28 | (injection eo28 with ea_ en_ ec_; (first | subst ea_ | (injection ea_ with ea_; subst ea_)); subst ec_; clear en_))
        have GB28 := Aside0.mk gb28
        have GG28 := Aside0.mk HG28
        clear gb28 gl28 HG28
        obtain ⟨ce28, hcl28, hM28, hcc28, hfr28⟩ := Kd.R_elem HO_6.out z59 (t108 : Int) p28 q28
        obtain rfl := k59_openM hM28
        have hx28_0 : wc.cell? ⟨go28, (t108 : Int).toNat * 4, none⟩ = some (.string ((aa_ x6_2 t108).f0)) := hcc28 0 _ rfl
        have hx28_1 : wc.cell? ⟨go28, (t108 : Int).toNat * 4 + 1, none⟩ = some (.string ((aa_ x6_2 t108).f1.f0)) := hcc28 1 _ rfl
        have hx28_2 : wc.cell? ⟨go28, (t108 : Int).toNat * 4 + 2, none⟩ = some (.int .i64 ((aa_ x6_2 t108).f1.f1)) := hcc28 2 _ rfl
        have hx28_3 : wc.cell? ⟨go28, (t108 : Int).toNat * 4 + 3, none⟩ = some (.int .i64 ((aa_ x6_2 t108).f1.f2)) := hcc28 3 _ rfl
        have hf28_0 : wc.frozen? ⟨go28, (t108 : Int).toNat * 4, none⟩ = false := hfr28 0
        have hf28_1 : wc.frozen? ⟨go28, (t108 : Int).toNat * 4 + 1, none⟩ = false := hfr28 1
        have hf28_2 : wc.frozen? ⟨go28, (t108 : Int).toNat * 4 + 2, none⟩ = false := hfr28 2
        have hf28_3 : wc.frozen? ⟨go28, (t108 : Int).toNat * 4 + 3, none⟩ = false := hfr28 3
        clear hcl28 hcc28 hfr28 hM28
        replace p28 := eq_true p28
        replace q28 := eq_true q28
        have HX30 := Aside0.mk (show Kd.R k59 59 wc w.heap.size (fun _ => True) (.slice (some ⟨go28, 0, none⟩) x6_2.length co20) x6_2 from (rz HO_6.out))
        obtain ⟨ce30, hcl30, hM30, hcc30, hfr30⟩ := Kd.R_elem HX30.out z59 (t108 : Int) (of_decide_eq_true (by assumption)) (by have h_ : (t108 : Int) < ((x6_2.length : Int) : Int) := of_decide_eq_true (by assumption); first | exact h_ | (have e_ := (Kd.aj_ HO_6.out).1; omega) | simpa using h_)
        obtain rfl := k59_openM hM30
        have HP30 := Kd.R_seg HX30.out (t108 : Int) (of_decide_eq_true (by assumption)) (by have h_ : (t108 : Int) < ((x6_2.length : Int) : Int) := of_decide_eq_true (by assumption); first | exact h_ | (have e_ := (Kd.aj_ HO_6.out).1; omega) | simpa using h_) (seg := [.string ((ak_ l1 x22_2).f1.f0), .string ((ak_ l1 x22_2).f1.f1.f0), .int .i64 ((ak_ l1 x22_2).f1.f1.f1), .int .i64 ((ak_ l1 x22_2).f1.f1.f2)]) (j := 0) hcl30 hcc30 (show 4 ≤ 4 from by decide) (x' := (⟨((ak_ l1 x22_2).f1.f0), (⟨((ak_ l1 x22_2).f1.f1.f0), ((ak_ l1 x22_2).f1.f1.f1), ((ak_ l1 x22_2).f1.f1.f2)⟩ : S57)⟩ : S59)) (cR_ _ _ _ (⟨((ak_ l1 x22_2).f1.f0), (⟨((ak_ l1 x22_2).f1.f1.f0), ((ak_ l1 x22_2).f1.f1.f1), ((ak_ l1 x22_2).f1.f1.f2)⟩ : S57)⟩ : S59) ) (fun _ hk => hk)
        have hx30_0 := hcc30 0 _ rfl
        (try simp only [show (k59).sz = 4 from rfl, Nat.mul_one, Nat.add_zero] at hx30_0)
        have hf30_0 := hfr30 0
        (try simp only [show (k59).sz = 4 from rfl, Nat.mul_one, Nat.add_zero] at hf30_0)
        have hx30_1 := hcc30 1 _ rfl
        (try simp only [show (k59).sz = 4 from rfl, Nat.mul_one, Nat.add_zero] at hx30_1)
        have hf30_1 := hfr30 1
        (try simp only [show (k59).sz = 4 from rfl, Nat.mul_one, Nat.add_zero] at hf30_1)
        have hx30_2 := hcc30 2 _ rfl
        (try simp only [show (k59).sz = 4 from rfl, Nat.mul_one, Nat.add_zero] at hx30_2)
        have hf30_2 := hfr30 2
        (try simp only [show (k59).sz = 4 from rfl, Nat.mul_one, Nat.add_zero] at hf30_2)
        have hx30_3 := hcc30 3 _ rfl
        (try simp only [show (k59).sz = 4 from rfl, Nat.mul_one, Nat.add_zero] at hx30_3)
        have hf30_3 := hfr30 3
        (try simp only [show (k59).sz = 4 from rfl, Nat.mul_one, Nat.add_zero] at hf30_3)
        clear hcl30 hcc30 hfr30 hM30
        go_wp2_with (first | ((with_reducible refine gate_store (t := 59) (p := 50) rfl ?_); (try (rw [dt_ wc]; generalize hq_ : World.drewN wc _ = wc; have n0_ := Aside0.mk (Kd.R_at hq_ HO_6.out); have n1_ := Aside0.mk (blk_at hq_ BK107.out); have n2_ := Aside0.mk (below_at hq_ HB.out); clear hq_ HO_6 BK107 HB; have HO_6 := n0_; have BK107 := n1_; have HB := n2_; clear n0_ n1_ n2_; (try (have HX30 := Aside0.mk (show Kd.R k59 59 wc w.heap.size (fun _ => True) (.slice (some ⟨go28, 0, none⟩) x6_2.length co20) x6_2 from (rz HO_6.out)))); (try (obtain ⟨ce30, hcl30, hM30, hcc30, hfr30⟩ := Kd.R_elem HX30.out z59 (t108 : Int) (of_decide_eq_true (by assumption)) (by have h_ : (t108 : Int) < ((x6_2.length : Int) : Int) := of_decide_eq_true (by assumption); first | exact h_ | (have e_ := (Kd.aj_ HO_6.out).1; omega) | simpa using h_))); (try (obtain rfl := k59_openM hM30)); (try (have HP30 := Kd.R_seg HX30.out (t108 : Int) (of_decide_eq_true (by assumption)) (by have h_ : (t108 : Int) < ((x6_2.length : Int) : Int) := of_decide_eq_true (by assumption); first | exact h_ | (have e_ := (Kd.aj_ HO_6.out).1; omega) | simpa using h_) (seg := [.string ((ak_ l1 x22_2).f1.f0), .string ((ak_ l1 x22_2).f1.f1.f0), .int .i64 ((ak_ l1 x22_2).f1.f1.f1), .int .i64 ((ak_ l1 x22_2).f1.f1.f2)]) (j := 0) hcl30 hcc30 (show 4 ≤ 4 from by decide) (x' := (⟨((ak_ l1 x22_2).f1.f0), (⟨((ak_ l1 x22_2).f1.f1.f0), ((ak_ l1 x22_2).f1.f1.f1), ((ak_ l1 x22_2).f1.f1.f2)⟩ : S57)⟩ : S59)) (cR_ _ _ _ (⟨((ak_ l1 x22_2).f1.f0), (⟨((ak_ l1 x22_2).f1.f1.f0), ((ak_ l1 x22_2).f1.f1.f1), ((ak_ l1 x22_2).f1.f1.f2)⟩ : S57)⟩ : S59) ) (fun _ hk => hk))); (try (have hx30_0 := hcc30 0 _ rfl)); (try (try simp only [show (k59).sz = 4 from rfl, Nat.mul_one, Nat.add_zero] at hx30_0)); (try (have hf30_0 := hfr30 0)); (try (try simp only [show (k59).sz = 4 from rfl, Nat.mul_one, Nat.add_zero] at hf30_0)); (try (have hx30_1 := hcc30 1 _ rfl)); (try (try simp only [show (k59).sz = 4 from rfl, Nat.mul_one, Nat.add_zero] at hx30_1)); (try (have hf30_1 := hfr30 1)); (try (try simp only [show (k59).sz = 4 from rfl, Nat.mul_one, Nat.add_zero] at hf30_1)); (try (have hx30_2 := hcc30 2 _ rfl)); (try (try simp only [show (k59).sz = 4 from rfl, Nat.mul_one, Nat.add_zero] at hx30_2)); (try (have hf30_2 := hfr30 2)); (try (try simp only [show (k59).sz = 4 from rfl, Nat.mul_one, Nat.add_zero] at hf30_2)); (try (have hx30_3 := hcc30 3 _ rfl)); (try (try simp only [show (k59).sz = 4 from rfl, Nat.mul_one, Nat.add_zero] at hx30_3)); (try (have hf30_3 := hfr30 3)); (try (try simp only [show (k59).sz = 4 from rfl, Nat.mul_one, Nat.add_zero] at hf30_3)); (try (clear hcl30 hcc30 hfr30 hM30)))); refine dA_ (t := 59) (p := 50) (v := ?vo_w31) (w1 := ((((wc.setCell ⟨go28, (t108 : Int).toNat * 4, none⟩ (.string ((ak_ l1 x22_2).f1.f0))).setCell ⟨go28, (t108 : Int).toNat * 4 + 1, none⟩ (.string ((ak_ l1 x22_2).f1.f1.f0))).setCell ⟨go28, (t108 : Int).toNat * 4 + 2, none⟩ (.int .i64 ((ak_ l1 x22_2).f1.f1.f1))).setCell ⟨go28, (t108 : Int).toNat * 4 + 3, none⟩ (.int .i64 ((ak_ l1 x22_2).f1.f1.f2)))) ?hg ?ho ?hn ?hr ?_; (case ho => rfl); (case hg => rfl); (case hn => rfl); (case hr => (go_simp; try rfl)); intro w31 hw; have hg : wc.grownBy w31 (some go28) := (by rw [hw]; exact HP30.2); have hp_ : Kd.R k59 59 w31 w.heap.size (fun _ => True) (.slice (some ⟨go28, 0, none⟩) x6_2.length co20) y110 := (by rw [hw, Ny110.out]; exact HP30.1); clear HP30; replace BK107 := Aside0.mk (ce_ (g := gb107) (o := .cells #[.int .i64 ((ak_ l1 x22_2).f0), .string ((ak_ l1 x22_2).f1.f0), .string ((ak_ l1 x22_2).f1.f1.f0), .int .i64 ((ak_ l1 x22_2).f1.f1.f1), .int .i64 ((ak_ l1 x22_2).f1.f1.f2)] 63 (0, 0)) (kz BK107.out) hg (Kd.R_ne HO_6.out BK107.out (by decide))); replace HO_6 := Aside0.mk (hp_); replace HB := Aside0.mk ((by rw [hw]; exact af_ (af_ (af_ (af_ (HB.out) GB28.out) GB28.out) GB28.out) GB28.out : Below w.heap.size w w31)); clear hg hw hp_))
        repeat (go_quiet (first | ((with_reducible refine gate_store (t := 59) (p := 50) rfl ?_); (try (rw [dt_ wc]; generalize hq_ : World.drewN wc _ = wc; have n0_ := Aside0.mk (Kd.R_at hq_ HO_6.out); have n1_ := Aside0.mk (blk_at hq_ BK107.out); have n2_ := Aside0.mk (below_at hq_ HB.out); clear hq_ HO_6 BK107 HB; have HO_6 := n0_; have BK107 := n1_; have HB := n2_; clear n0_ n1_ n2_; (try (have HX30 := Aside0.mk (show Kd.R k59 59 wc w.heap.size (fun _ => True) (.slice (some ⟨go28, 0, none⟩) x6_2.length co20) x6_2 from (rz HO_6.out)))); (try (obtain ⟨ce30, hcl30, hM30, hcc30, hfr30⟩ := Kd.R_elem HX30.out z59 (t108 : Int) (of_decide_eq_true (by assumption)) (by have h_ : (t108 : Int) < ((x6_2.length : Int) : Int) := of_decide_eq_true (by assumption); first | exact h_ | (have e_ := (Kd.aj_ HO_6.out).1; omega) | simpa using h_))); (try (obtain rfl := k59_openM hM30)); (try (have HP30 := Kd.R_seg HX30.out (t108 : Int) (of_decide_eq_true (by assumption)) (by have h_ : (t108 : Int) < ((x6_2.length : Int) : Int) := of_decide_eq_true (by assumption); first | exact h_ | (have e_ := (Kd.aj_ HO_6.out).1; omega) | simpa using h_) (seg := [.string ((ak_ l1 x22_2).f1.f0), .string ((ak_ l1 x22_2).f1.f1.f0), .int .i64 ((ak_ l1 x22_2).f1.f1.f1), .int .i64 ((ak_ l1 x22_2).f1.f1.f2)]) (j := 0) hcl30 hcc30 (show 4 ≤ 4 from by decide) (x' := (⟨((ak_ l1 x22_2).f1.f0), (⟨((ak_ l1 x22_2).f1.f1.f0), ((ak_ l1 x22_2).f1.f1.f1), ((ak_ l1 x22_2).f1.f1.f2)⟩ : S57)⟩ : S59)) (cR_ _ _ _ (⟨((ak_ l1 x22_2).f1.f0), (⟨((ak_ l1 x22_2).f1.f1.f0), ((ak_ l1 x22_2).f1.f1.f1), ((ak_ l1 x22_2).f1.f1.f2)⟩ : S57)⟩ : S59) ) (fun _ hk => hk))); (try (have hx30_0 := hcc30 0 _ rfl)); (try (try simp only [show (k59).sz = 4 from rfl, Nat.mul_one, Nat.add_zero] at hx30_0)); (try (have hf30_0 := hfr30 0)); (try (try simp only [show (k59).sz = 4 from rfl, Nat.mul_one, Nat.add_zero] at hf30_0)); (try (have hx30_1 := hcc30 1 _ rfl)); (try (try simp only [show (k59).sz = 4 from rfl, Nat.mul_one, Nat.add_zero] at hx30_1)); (try (have hf30_1 := hfr30 1)); (try (try simp only [show (k59).sz = 4 from rfl, Nat.mul_one, Nat.add_zero] at hf30_1)); (try (have hx30_2 := hcc30 2 _ rfl)); (try (try simp only [show (k59).sz = 4 from rfl, Nat.mul_one, Nat.add_zero] at hx30_2)); (try (have hf30_2 := hfr30 2)); (try (try simp only [show (k59).sz = 4 from rfl, Nat.mul_one, Nat.add_zero] at hf30_2)); (try (have hx30_3 := hcc30 3 _ rfl)); (try (try simp only [show (k59).sz = 4 from rfl, Nat.mul_one, Nat.add_zero] at hx30_3)); (try (have hf30_3 := hfr30 3)); (try (try simp only [show (k59).sz = 4 from rfl, Nat.mul_one, Nat.add_zero] at hf30_3)); (try (clear hcl30 hcc30 hfr30 hM30)))); refine dA_ (t := 59) (p := 50) (v := ?vo_w31) (w1 := ((((wc.setCell ⟨go28, (t108 : Int).toNat * 4, none⟩ (.string ((ak_ l1 x22_2).f1.f0))).setCell ⟨go28, (t108 : Int).toNat * 4 + 1, none⟩ (.string ((ak_ l1 x22_2).f1.f1.f0))).setCell ⟨go28, (t108 : Int).toNat * 4 + 2, none⟩ (.int .i64 ((ak_ l1 x22_2).f1.f1.f1))).setCell ⟨go28, (t108 : Int).toNat * 4 + 3, none⟩ (.int .i64 ((ak_ l1 x22_2).f1.f1.f2)))) ?hg ?ho ?hn ?hr ?_; (case ho => rfl); (case hg => rfl); (case hn => rfl); (case hr => (go_simp; try rfl)); intro w31 hw; have hg : wc.grownBy w31 (some go28) := (by rw [hw]; exact HP30.2); have hp_ : Kd.R k59 59 w31 w.heap.size (fun _ => True) (.slice (some ⟨go28, 0, none⟩) x6_2.length co20) y110 := (by rw [hw, Ny110.out]; exact HP30.1); clear HP30; replace BK107 := Aside0.mk (ce_ (g := gb107) (o := .cells #[.int .i64 ((ak_ l1 x22_2).f0), .string ((ak_ l1 x22_2).f1.f0), .string ((ak_ l1 x22_2).f1.f1.f0), .int .i64 ((ak_ l1 x22_2).f1.f1.f1), .int .i64 ((ak_ l1 x22_2).f1.f1.f2)] 63 (0, 0)) (kz BK107.out) hg (Kd.R_ne HO_6.out BK107.out (by decide))); replace HO_6 := Aside0.mk (hp_); replace HB := Aside0.mk ((by rw [hw]; exact af_ (af_ (af_ (af_ (HB.out) GB28.out) GB28.out) GB28.out) GB28.out : Below w.heap.size w w31)); clear hg hw hp_)); try go_wp2_with (first | ((with_reducible refine gate_store (t := 59) (p := 50) rfl ?_); (try (rw [dt_ wc]; generalize hq_ : World.drewN wc _ = wc; have n0_ := Aside0.mk (Kd.R_at hq_ HO_6.out); have n1_ := Aside0.mk (blk_at hq_ BK107.out); have n2_ := Aside0.mk (below_at hq_ HB.out); clear hq_ HO_6 BK107 HB; have HO_6 := n0_; have BK107 := n1_; have HB := n2_; clear n0_ n1_ n2_; (try (have HX30 := Aside0.mk (show Kd.R k59 59 wc w.heap.size (fun _ => True) (.slice (some ⟨go28, 0, none⟩) x6_2.length co20) x6_2 from (rz HO_6.out)))); (try (obtain ⟨ce30, hcl30, hM30, hcc30, hfr30⟩ := Kd.R_elem HX30.out z59 (t108 : Int) (of_decide_eq_true (by assumption)) (by have h_ : (t108 : Int) < ((x6_2.length : Int) : Int) := of_decide_eq_true (by assumption); first | exact h_ | (have e_ := (Kd.aj_ HO_6.out).1; omega) | simpa using h_))); (try (obtain rfl := k59_openM hM30)); (try (have HP30 := Kd.R_seg HX30.out (t108 : Int) (of_decide_eq_true (by assumption)) (by have h_ : (t108 : Int) < ((x6_2.length : Int) : Int) := of_decide_eq_true (by assumption); first | exact h_ | (have e_ := (Kd.aj_ HO_6.out).1; omega) | simpa using h_) (seg := [.string ((ak_ l1 x22_2).f1.f0), .string ((ak_ l1 x22_2).f1.f1.f0), .int .i64 ((ak_ l1 x22_2).f1.f1.f1), .int .i64 ((ak_ l1 x22_2).f1.f1.f2)]) (j := 0) hcl30 hcc30 (show 4 ≤ 4 from by decide) (x' := (⟨((ak_ l1 x22_2).f1.f0), (⟨((ak_ l1 x22_2).f1.f1.f0), ((ak_ l1 x22_2).f1.f1.f1), ((ak_ l1 x22_2).f1.f1.f2)⟩ : S57)⟩ : S59)) (cR_ _ _ _ (⟨((ak_ l1 x22_2).f1.f0), (⟨((ak_ l1 x22_2).f1.f1.f0), ((ak_ l1 x22_2).f1.f1.f1), ((ak_ l1 x22_2).f1.f1.f2)⟩ : S57)⟩ : S59) ) (fun _ hk => hk))); (try (have hx30_0 := hcc30 0 _ rfl)); (try (try simp only [show (k59).sz = 4 from rfl, Nat.mul_one, Nat.add_zero] at hx30_0)); (try (have hf30_0 := hfr30 0)); (try (try simp only [show (k59).sz = 4 from rfl, Nat.mul_one, Nat.add_zero] at hf30_0)); (try (have hx30_1 := hcc30 1 _ rfl)); (try (try simp only [show (k59).sz = 4 from rfl, Nat.mul_one, Nat.add_zero] at hx30_1)); (try (have hf30_1 := hfr30 1)); (try (try simp only [show (k59).sz = 4 from rfl, Nat.mul_one, Nat.add_zero] at hf30_1)); (try (have hx30_2 := hcc30 2 _ rfl)); (try (try simp only [show (k59).sz = 4 from rfl, Nat.mul_one, Nat.add_zero] at hx30_2)); (try (have hf30_2 := hfr30 2)); (try (try simp only [show (k59).sz = 4 from rfl, Nat.mul_one, Nat.add_zero] at hf30_2)); (try (have hx30_3 := hcc30 3 _ rfl)); (try (try simp only [show (k59).sz = 4 from rfl, Nat.mul_one, Nat.add_zero] at hx30_3)); (try (have hf30_3 := hfr30 3)); (try (try simp only [show (k59).sz = 4 from rfl, Nat.mul_one, Nat.add_zero] at hf30_3)); (try (clear hcl30 hcc30 hfr30 hM30)))); refine dA_ (t := 59) (p := 50) (v := ?vo_w31) (w1 := ((((wc.setCell ⟨go28, (t108 : Int).toNat * 4, none⟩ (.string ((ak_ l1 x22_2).f1.f0))).setCell ⟨go28, (t108 : Int).toNat * 4 + 1, none⟩ (.string ((ak_ l1 x22_2).f1.f1.f0))).setCell ⟨go28, (t108 : Int).toNat * 4 + 2, none⟩ (.int .i64 ((ak_ l1 x22_2).f1.f1.f1))).setCell ⟨go28, (t108 : Int).toNat * 4 + 3, none⟩ (.int .i64 ((ak_ l1 x22_2).f1.f1.f2)))) ?hg ?ho ?hn ?hr ?_; (case ho => rfl); (case hg => rfl); (case hn => rfl); (case hr => (go_simp; try rfl)); intro w31 hw; have hg : wc.grownBy w31 (some go28) := (by rw [hw]; exact HP30.2); have hp_ : Kd.R k59 59 w31 w.heap.size (fun _ => True) (.slice (some ⟨go28, 0, none⟩) x6_2.length co20) y110 := (by rw [hw, Ny110.out]; exact HP30.1); clear HP30; replace BK107 := Aside0.mk (ce_ (g := gb107) (o := .cells #[.int .i64 ((ak_ l1 x22_2).f0), .string ((ak_ l1 x22_2).f1.f0), .string ((ak_ l1 x22_2).f1.f1.f0), .int .i64 ((ak_ l1 x22_2).f1.f1.f1), .int .i64 ((ak_ l1 x22_2).f1.f1.f2)] 63 (0, 0)) (kz BK107.out) hg (Kd.R_ne HO_6.out BK107.out (by decide))); replace HO_6 := Aside0.mk (hp_); replace HB := Aside0.mk ((by rw [hw]; exact af_ (af_ (af_ (af_ (HB.out) GB28.out) GB28.out) GB28.out) GB28.out : Below w.heap.size w w31)); clear hg hw hp_)))
        go_roundg kj16
        case measure => have := HJ2.out; have := HK2.out; have := HJ16.out; omega
        case rel => exact ⟨(y110), (wrap64 (x22_2 + 1)), (by first | rfl | (simp; done) | (simp [*]; done)), H', ⟨by have := HJ2.out; have := HK2.out; have := HJ16.out; omega⟩, ⟨rz HO_6.out⟩, ⟨bq⟩⟩
   subst c10
   have H1 : (some (([] : List (S59)), 1)) = some (r1, r2) := by rw [if_pos rfl] at H; exact H
   clear H
   have H := H1
   clear H1
   simp only [Option.some.injEq, Prod.mk.injEq] at H
   obtain ⟨rfl, rfl⟩ := H
   go_wp2
   repeat (go_quiet (fail); try go_wp2)
   go_ret2
   exact ⟨_, by first | rfl | (simp [*, ap_, ao_] <;> rfl), by first | exact Kd.R_nil _ _ _ _ _ | exact Kd.N_nil _ _ _ _ _ | exact Kd.V_nil _ _ _ _ _ | exact Kd.Q_nil _ _ _ _ _ | exact Kd.S_nil _ _ _ _ _, bz HB.out⟩
def bV_.l0 : Nat → List (S59) → List (S59) → Int → Option (Bool)
 | 0, _, _, _ => none
 | k + 1, x0, x1, x5 => if x5 < (x0.length : Int) then (if 0 ≤ x5 then (if x5 < (x1.length : Int) then (if (!((((aa_ x0 x5).f0).toList) == (((aa_ x1 x5).f0).toList)) || ((!((((aa_ x0 x5).f1.f0).toList) == (((aa_ x1 x5).f1.f0).toList)) || (!(((aa_ x0 x5).f1.f1) == ((aa_ x1 x5).f1.f1)) || (!(((aa_ x0 x5).f1.f2) == ((aa_ x1 x5).f1.f2))))))) = true then (some false) else (bV_.l0 k x0 x1 (wrap64 (x5 + 1)))) else (none)) else (none)) else (some true)
def bV_.f (k : Nat) (l0 : List (S59)) (l1 : List (S59)) : Option (Bool) := if (l0.length : Int) = (l1.length : Int) then (bV_.l0 k l0 l1 0) else (some false)
set_option maxHeartbeats 8000000 in
set_option maxRecDepth 100000 in
theorem bV_.calls (k : Nat) (A0 : Option Addr) (c0 : Nat) (l0 : List (S59)) (A1 : Option Addr) (c1 : Nat) (l1 : List (S59)) (r : Bool) (w : World) (hr0 : Kd.C k59 w A0 l0.length l0) (hc0 : l0.length ≤ c0) (hr1 : Kd.C k59 w A1 l1.length l1) (hc1 : l1.length ≤ c1) (h : bV_.f k l0 l1 = some r) :
  Calls Tryd.prog 34 #[.slice A0 l0.length c0, .slice A1 l1.length c1] w fun e w' => e = .returned (.bool r) ∧ au_ w w' := by
 have hu59 := Tryd.underlying59
 have HR0 := Aside0.mk hr0
 have HC0 := Aside0.mk hc0
 clear hr0 hc0
 have HR1 := Aside0.mk hr1
 have HC1 := Aside0.mk hc1
 clear hr1 hc1
 have H : (if (l0.length : Int) = (l1.length : Int) then (bV_.l0 k l0 l1 0) else (some false)) = some r := h
 clear h
 by_cases c3 : (l0.length : Int) = (l1.length : Int)
 rotate_left
 ·rw [if_neg c3] at H
  have c3b0 : ((l0.length : Int) == (l1.length : Int)) = false := beq_eq_false_iff_ne.mpr c3
  have c3b1 : ((l0.length : Int) != (l1.length : Int)) = true := bne_iff_ne.mpr c3
  have c3b2 : (l0.length == l1.length) = false := by first | simpa using c3 | (simp at c3 ⊢; omega)
  obtain rfl := Option.some.inj H
  go_enter Tryd.func34, Tryd.ntmps34
  go_wp2
  repeat (go_quiet (fail); try go_wp2)
  go_ret
  exact ⟨by first | rfl | (simp; done) | (simp [*]; done), by repeat (first | exact au_.refl _ | apply au_.step)⟩
 rw [if_pos c3] at H
 have c3b0 : ((l0.length : Int) == (l1.length : Int)) = true := beq_iff_eq.mpr c3
 have c3b1 : ((l0.length : Int) != (l1.length : Int)) = false := bne_eq_false_iff_eq.mpr c3
 have c3b2 : (l0.length == l1.length) = true := by first | simpa using c3 | (simp at c3 ⊢; omega)
 clear c3
 have H' := Aside0.mk H
 clear H
 go_enter Tryd.func34, Tryd.ntmps34
 go_wp2
 repeat (go_quiet (fail); try go_wp2)
 (try simp only [Act.put, lsa_, ls0_, ls1_])
 go_loopg [5] k (fun kq v5 w' => ∃ (x5_1 : Int), v5 = .int .i64 x5_1 ∧ Aside0 (bV_.l0 kq l0 l1 x5_1 = some r) ∧ Aside0 (kq ≤ k) ∧ au_ w w')
 case atStart => exact ⟨(0), (by first | rfl | (simp; done) | (simp [*]; done)), H', ⟨Nat.le_refl _⟩, by repeat (first | exact au_.refl _ | apply au_.step)⟩
 case round =>
  clear H'
  obtain ⟨x5_1, rfl, HA, HK1, ⟨m1, rfl⟩⟩ := hrel
  cases gk with
  | zero => exact absurd HA.out (by simp [bV_.l0])
  | succ k1 =>
   have H := HA.out
   clear HA
   simp only [bV_.l0] at H
   by_cases c4 : x5_1 < (l0.length : Int)
   rotate_left
   ·rw [if_neg c4] at H
    have c4b0 : decide (x5_1 < (l0.length : Int)) = false := decide_eq_false c4
    clear c4
    obtain rfl := Option.some.inj H
    go_wp2
    repeat (go_quiet (fail); try go_wp2)
    go_ret
    exact ⟨by first | rfl | (simp; done) | (simp [*]; done), by repeat (first | exact au_.refl _ | apply au_.step)⟩
   rw [if_pos c4] at H
   have c4b0 : decide (x5_1 < (l0.length : Int)) = true := decide_eq_true c4
   clear c4
   by_cases c5 : 0 ≤ x5_1
   rotate_left
   ·rw [if_neg c5] at H
    exact absurd H (by simp)
   rw [if_pos c5] at H
   have c5b0 : decide (0 ≤ x5_1) = true := decide_eq_true c5
   clear c5
   by_cases c6 : x5_1 < (l1.length : Int)
   rotate_left
   ·rw [if_neg c6] at H
    exact absurd H (by simp)
   rw [if_pos c6] at H
   have c6b0 : decide (x5_1 < (l1.length : Int)) = true := decide_eq_true c6
   clear c6
   by_cases c7 : (!((((aa_ l0 x5_1).f0).toList) == (((aa_ l1 x5_1).f0).toList)) || ((!((((aa_ l0 x5_1).f1.f0).toList) == (((aa_ l1 x5_1).f1.f0).toList)) || (!(((aa_ l0 x5_1).f1.f1) == ((aa_ l1 x5_1).f1.f1)) || (!(((aa_ l0 x5_1).f1.f2) == ((aa_ l1 x5_1).f1.f2))))))) = true
   rotate_left
   ·rw [if_neg c7] at H
    have c7b0 : (!((((aa_ l0 x5_1).f0).toList) == (((aa_ l1 x5_1).f0).toList)) || ((!((((aa_ l0 x5_1).f1.f0).toList) == (((aa_ l1 x5_1).f1.f0).toList)) || (!(((aa_ l0 x5_1).f1.f1) == ((aa_ l1 x5_1).f1.f1)) || (!(((aa_ l0 x5_1).f1.f2) == ((aa_ l1 x5_1).f1.f2))))))) = false := by simpa using c7
    clear c7
    have H' := Aside0.mk H
    clear H
    have p101 : 0 ≤ (x5_1 : Int) := of_decide_eq_true (by assumption)
    have q101 : x5_1 < (l0.length : Int) := of_decide_eq_true (by assumption)
    obtain ⟨ad101, e101, hx101_0, hx101_1, hx101_2, hx101_3⟩ := cH_ HR0.out x5_1 p101 q101
    cases e101
    replace p101 := eq_true p101
    replace q101 := eq_true q101
    have p102 : 0 ≤ (x5_1 : Int) := of_decide_eq_true (by assumption)
    have q102 : x5_1 < (l1.length : Int) := of_decide_eq_true (by assumption)
    obtain ⟨ad102, e102, hx102_0, hx102_1, hx102_2, hx102_3⟩ := cH_ HR1.out x5_1 p102 q102
    cases e102
    replace p102 := eq_true p102
    replace q102 := eq_true q102
    go_wp2
    repeat (go_quiet (fail); try go_wp2)
    go_roundg k1
    case measure => have := HK1.out; omega
    case rel => exact ⟨(wrap64 (x5_1 + 1)), (by first | rfl | (simp; done) | (simp [*]; done)), H', ⟨by have := HK1.out; omega⟩, by repeat (first | exact au_.refl _ | apply au_.step)⟩
   rw [if_pos c7] at H
   have c7b0 : (!((((aa_ l0 x5_1).f0).toList) == (((aa_ l1 x5_1).f0).toList)) || ((!((((aa_ l0 x5_1).f1.f0).toList) == (((aa_ l1 x5_1).f1.f0).toList)) || (!(((aa_ l0 x5_1).f1.f1) == ((aa_ l1 x5_1).f1.f1)) || (!(((aa_ l0 x5_1).f1.f2) == ((aa_ l1 x5_1).f1.f2))))))) = true := c7
   clear c7
   obtain rfl := Option.some.inj H
   have p101 : 0 ≤ (x5_1 : Int) := of_decide_eq_true (by assumption)
   have q101 : x5_1 < (l0.length : Int) := of_decide_eq_true (by assumption)
   obtain ⟨ad101, e101, hx101_0, hx101_1, hx101_2, hx101_3⟩ := cH_ HR0.out x5_1 p101 q101
   cases e101
   replace p101 := eq_true p101
   replace q101 := eq_true q101
   have p102 : 0 ≤ (x5_1 : Int) := of_decide_eq_true (by assumption)
   have q102 : x5_1 < (l1.length : Int) := of_decide_eq_true (by assumption)
   obtain ⟨ad102, e102, hx102_0, hx102_1, hx102_2, hx102_3⟩ := cH_ HR1.out x5_1 p102 q102
   cases e102
   replace p102 := eq_true p102
   replace q102 := eq_true q102
   go_wp2
   repeat (go_quiet (fail); try go_wp2)
   go_ret
   exact ⟨by first | rfl | (simp; done) | (simp [*]; done), by repeat (first | exact au_.refl _ | apply au_.step)⟩
end Go.Proofs.YtiheginanghhjaaDoor.Q
namespace Go.Proofs.YtiheginanghhjaaDoor.Q
open Go.RowKit Go.Proofs.YtiheginanghhjaaDoorW.PrintWords Go.Proofs.YtiheginanghhjaaDoorW.PrintLast Go.Proofs.YtiheginanghhjaaDoorW.PrintMore
attribute [local go_sem] aJ_ aI_ aW_ aX_ az_ aA_ aG_ aH_
def aU_.f (k : Nat) (l0 : List (S59)) (l1 : List (S59)) : Option (Bool) := (bV_.f k l0 l1).bind fun t101 => (some t101)
set_option maxHeartbeats 8000000 in
set_option maxRecDepth 100000 in
theorem aU_.calls (k : Nat) (A0 : Option Addr) (c0 : Nat) (l0 : List (S59)) (A1 : Option Addr) (c1 : Nat) (l1 : List (S59)) (r : Bool) (w : World) (hr0 : Kd.C k59 w A0 l0.length l0) (hc0 : l0.length ≤ c0) (hr1 : Kd.C k59 w A1 l1.length l1) (hc1 : l1.length ≤ c1) (h : aU_.f k l0 l1 = some r) :
  Calls Tryd.prog 10 #[.slice A0 l0.length c0, .slice A1 l1.length c1] w fun e w' => e = .returned (.bool r) ∧ au_ w w' := by
 have HR0 := Aside0.mk hr0
 have HC0 := Aside0.mk hc0
 clear hr0 hc0
 have HR1 := Aside0.mk hr1
 have HC1 := Aside0.mk hc1
 clear hr1 hc1
 have H : ((bV_.f k l0 l1).bind fun t101 => (some t101)) = some r := h
 clear h
 replace H := Option.bind_eq_some_iff.mp H
 obtain ⟨t101, A30, H⟩ := H
 (try dsimp only at H)
 have A3 := Aside0.mk A30
 clear A30
 obtain rfl := Option.some.inj H
 go_enter Tryd.func10, Tryd.ntmps10
 go_wp2_with (first | ((with_reducible refine as_ (f := 34) rfl ?_); refine bw_ (some 7) rfl rfl Tryd.func34 (by kernel_rfl) rfl #[.slice A0 l0.length c0, .slice A1 l1.length c1] rfl (by first | rfl | (simp only [lma_, lmc_, lmn_]; first | done | rfl)) ?_; (with_reducible refine (bV_.calls k _ _ l0 _ _ l1 t101 _ ?side1 ?side2 ?side3 ?side4 A3.out).mono ?_); (case side1 => exact cz HR0.out); (case side2 => exact HC0.out); (case side3 => exact cz HR1.out); (case side4 => exact HC1.out); rintro e w' ⟨rfl, ⟨nd, rfl⟩⟩; refine ⟨_, rfl, ?_⟩))
 go_ret
 exact ⟨by first | rfl | (simp; done) | (simp [*]; done), by repeat (first | exact au_.refl _ | apply au_.step)⟩
def dv_.f (l0 : List Int) (a1 : Int) (a2 : Int) : Option (Int) := if a2 ≤ 1 then (some 0) else (if a1 ≥ (l0.length : Int) then (some 0) else (if 0 ≤ a1 then (if a1 < (l0.length : Int) then (if a2 = 0 then (none) else (some (Int.tmod (wrap64 (rd l0 a1)) a2))) else (none)) else (none)))
set_option maxHeartbeats 8000000 in
set_option maxRecDepth 100000 in
theorem dv_.calls (A0 : Option Addr) (c0 : Nat) (l0 : List Int) (a1 : Int) (a2 : Int) (r : Int) (w : World) (hr0 : Kd.C (Kd.int .u8) w A0 l0.length l0) (hc0 : l0.length ≤ c0) (h : dv_.f l0 a1 a2 = some r) :
  Calls Tryd.prog 11 #[.slice A0 l0.length c0, .int .i64 a1, .int .i64 a2] w fun e w' => e = .returned (.int .i64 r) ∧ au_ w w' := by
 have HR0 := Aside0.mk hr0
 have HC0 := Aside0.mk hc0
 clear hr0 hc0
 have H : (if a2 ≤ 1 then (some 0) else (if a1 ≥ (l0.length : Int) then (some 0) else (if 0 ≤ a1 then (if a1 < (l0.length : Int) then (if a2 = 0 then (none) else (some (Int.tmod (wrap64 (rd l0 a1)) a2))) else (none)) else (none)))) = some r := h
 clear h
 by_cases c4 : a2 ≤ 1
 rotate_left
 ·rw [if_neg c4] at H
  have c4b0 : decide (a2 ≤ 1) = false := decide_eq_false c4
  clear c4
  by_cases c5 : a1 ≥ (l0.length : Int)
  rotate_left
  ·rw [if_neg c5] at H
   have c5b0 : decide ((l0.length : Int) ≤ a1) = false := decide_eq_false c5
   clear c5
   by_cases c6 : 0 ≤ a1
   rotate_left
   ·rw [if_neg c6] at H
    exact absurd H (by simp)
   rw [if_pos c6] at H
   have c6b0 : decide (0 ≤ a1) = true := decide_eq_true c6
   clear c6
   by_cases c7 : a1 < (l0.length : Int)
   rotate_left
   ·rw [if_neg c7] at H
    exact absurd H (by simp)
   rw [if_pos c7] at H
   have c7b0 : decide (a1 < (l0.length : Int)) = true := decide_eq_true c7
   clear c7
   by_cases c8 : a2 = 0
   rotate_left
   ·rw [if_neg c8] at H
    have c8b0 : (a2 == 0) = false := beq_eq_false_iff_ne.mpr c8
    have c8b1 : (a2 != 0) = true := bne_iff_ne.mpr c8
    obtain rfl := Option.some.inj H
    have p101 : 0 ≤ (a1 : Int) := of_decide_eq_true (by assumption)
    have q101 : a1 < (l0.length : Int) := of_decide_eq_true (by assumption)
    obtain ⟨ad101, e101, hx101_0⟩ := Kd.cu_ HR0.out a1 p101 q101
    cases e101
    replace p101 := eq_true p101
    replace q101 := eq_true q101
    go_enter Tryd.func11, Tryd.ntmps11
    go_wp2
    go_ret
    exact ⟨by first | rfl | (simp; done) | (simp [*]; done), by repeat (first | exact au_.refl _ | apply au_.step)⟩
   rw [if_pos c8] at H
   exact absurd H (by simp)
  rw [if_pos c5] at H
  have c5b0 : decide ((l0.length : Int) ≤ a1) = true := decide_eq_true c5
  clear c5
  obtain rfl := Option.some.inj H
  go_enter Tryd.func11, Tryd.ntmps11
  go_wp2
  go_ret
  exact ⟨by first | rfl | (simp; done) | (simp [*]; done), by repeat (first | exact au_.refl _ | apply au_.step)⟩
 rw [if_pos c4] at H
 have c4b0 : decide (a2 ≤ 1) = true := decide_eq_true c4
 clear c4
 obtain rfl := Option.some.inj H
 go_enter Tryd.func11, Tryd.ntmps11
 go_wp2
 go_ret
 exact ⟨by first | rfl | (simp; done) | (simp [*]; done), by repeat (first | exact au_.refl _ | apply au_.step)⟩
def aQ_.l0 : Nat → ByteArray → Int → Option (Bool)
 | 0, _, _ => none
 | k + 1, x0, x3 => if x3 < (x0.size : Int) then (if 0 ≤ x3 then (if (bt x0 x3) < 32 then (some false) else (if (bt x0 x3) > 126 then (some false) else (aQ_.l0 k x0 (wrap64 (x3 + 1))))) else (none)) else (some (decide ((x0.size : Int) ≤ 20)))
def aQ_.f (k : Nat) (a0 : ByteArray) : Option (Bool) := aQ_.l0 k a0 0
set_option maxHeartbeats 8000000 in
set_option maxRecDepth 100000 in
theorem aQ_.calls (k : Nat) (a0 : ByteArray) (r : Bool) (w : World) (h : aQ_.f k a0 = some r) :
  Calls Tryd.prog 36 #[.string a0] w fun e w' => e = .returned (.bool r) ∧ au_ w w' := by
 have H : (aQ_.l0 k a0 0) = some r := h
 clear h
 have H' := Aside0.mk H
 clear H
 go_enter Tryd.func36, Tryd.ntmps36
 go_wp2
 (try simp only [Act.put, lsa_, ls0_, ls1_])
 go_loopg [3] k (fun kq v3 w' => ∃ (x3_1 : Int), v3 = .int .i64 x3_1 ∧ Aside0 (aQ_.l0 kq a0 x3_1 = some r) ∧ Aside0 (kq ≤ k) ∧ au_ w w')
 case atStart => exact ⟨(0), (by first | rfl | (simp; done) | (simp [*]; done)), H', ⟨Nat.le_refl _⟩, by repeat (first | exact au_.refl _ | apply au_.step)⟩
 case round =>
  clear H'
  obtain ⟨x3_1, rfl, HA, HK1, ⟨m1, rfl⟩⟩ := hrel
  cases gk with
  | zero => exact absurd HA.out (by simp [aQ_.l0])
  | succ k1 =>
   have H := HA.out
   clear HA
   simp only [aQ_.l0] at H
   by_cases c2 : x3_1 < (a0.size : Int)
   rotate_left
   ·rw [if_neg c2] at H
    have c2b0 : decide (x3_1 < (a0.size : Int)) = false := decide_eq_false c2
    clear c2
    obtain rfl := Option.some.inj H
    go_wp2
    go_ret
    exact ⟨by first | rfl | (simp; done) | (simp [*]; done), by repeat (first | exact au_.refl _ | apply au_.step)⟩
   rw [if_pos c2] at H
   have c2b0 : decide (x3_1 < (a0.size : Int)) = true := decide_eq_true c2
   clear c2
   by_cases c3 : 0 ≤ x3_1
   rotate_left
   ·rw [if_neg c3] at H
    exact absurd H (by simp)
   rw [if_pos c3] at H
   have c3b0 : decide (0 ≤ x3_1) = true := decide_eq_true c3
   clear c3
   by_cases c5 : (bt a0 x3_1) < 32
   rotate_left
   ·rw [if_neg c5] at H
    have c5b0 : decide ((bt a0 x3_1) < 32) = false := decide_eq_false c5
    clear c5
    by_cases c7 : (bt a0 x3_1) > 126
    rotate_left
    ·rw [if_neg c7] at H
     have c7b0 : decide (126 < (bt a0 x3_1)) = false := decide_eq_false c7
     clear c7
     have H' := Aside0.mk H
     clear H
     have p4 : 0 ≤ (x3_1 : Int) := of_decide_eq_true (by assumption)
     have q4 : x3_1 < (a0.size : Int) := of_decide_eq_true (by assumption)
     have hx4 := bt_at a0 x3_1
     replace p4 := eq_true p4
     replace q4 := eq_true q4
     have p6 : 0 ≤ (x3_1 : Int) := of_decide_eq_true (by assumption)
     have q6 : x3_1 < (a0.size : Int) := of_decide_eq_true (by assumption)
     have hx6 := bt_at a0 x3_1
     replace p6 := eq_true p6
     replace q6 := eq_true q6
     go_wp2
     go_roundg k1
     case measure => have := HK1.out; omega
     case rel => exact ⟨(wrap64 (x3_1 + 1)), (by first | rfl | (simp; done) | (simp [*]; done)), H', ⟨by have := HK1.out; omega⟩, by repeat (first | exact au_.refl _ | apply au_.step)⟩
    rw [if_pos c7] at H
    have c7b0 : decide (126 < (bt a0 x3_1)) = true := decide_eq_true c7
    clear c7
    obtain rfl := Option.some.inj H
    have p4 : 0 ≤ (x3_1 : Int) := of_decide_eq_true (by assumption)
    have q4 : x3_1 < (a0.size : Int) := of_decide_eq_true (by assumption)
    have hx4 := bt_at a0 x3_1
    replace p4 := eq_true p4
    replace q4 := eq_true q4
    have p6 : 0 ≤ (x3_1 : Int) := of_decide_eq_true (by assumption)
    have q6 : x3_1 < (a0.size : Int) := of_decide_eq_true (by assumption)
    have hx6 := bt_at a0 x3_1
    replace p6 := eq_true p6
    replace q6 := eq_true q6
    go_wp2
    go_ret
    exact ⟨by first | rfl | (simp; done) | (simp [*]; done), by repeat (first | exact au_.refl _ | apply au_.step)⟩
   rw [if_pos c5] at H
   have c5b0 : decide ((bt a0 x3_1) < 32) = true := decide_eq_true c5
   clear c5
   obtain rfl := Option.some.inj H
   have p4 : 0 ≤ (x3_1 : Int) := of_decide_eq_true (by assumption)
   have q4 : x3_1 < (a0.size : Int) := of_decide_eq_true (by assumption)
   have hx4 := bt_at a0 x3_1
   replace p4 := eq_true p4
   replace q4 := eq_true q4
   go_wp2
   go_ret
   exact ⟨by first | rfl | (simp; done) | (simp [*]; done), by repeat (first | exact au_.refl _ | apply au_.step)⟩
def aD_.l0 : Nat → List (S48) → List (S48) → Int → Int → Option (Bool)
 | 0, _, _, _, _ => none
 | k + 1, x0, x5, x6, x7 => if x7 < x6 then (if 0 ≤ x7 then (if x7 < (x5.length : Int) then (if ((ar_ x5 x7).f0) = (wrap64 (x7 + 1)) then ((aF_.f ((ar_ x5 x7).f1) 0 x7).bind fun t103 => (if t103 = true then ((aQ_.f k ((ar_ x5 x7).f2)).bind fun t104 => (if t104 = true then ((an_.f k ((ar_ x5 x7).f3)).bind fun t105 => (if t105 = true then (aD_.l0 k x0 x5 x6 (wrap64 (x7 + 1))) else (some false))) else (some false))) else (some false))) else (some false)) else (none)) else (none)) else (some (decide ((x0.length : Int) ≤ 16)))
def aD_.f (k : Nat) (l0 : List (S48)) : Option (Bool) := aD_.l0 k l0 l0 (l0.length : Int) 0
set_option maxHeartbeats 8000000 in
set_option maxRecDepth 100000 in
theorem aD_.calls (k : Nat) (A0 : Option Addr) (c0 : Nat) (l0 : List (S48)) (r : Bool) (w : World) (hr0 : Kd.C k48 w A0 l0.length l0) (hc0 : l0.length ≤ c0) (h : aD_.f k l0 = some r) :
  Calls Tryd.prog 35 #[.slice A0 l0.length c0] w fun e w' => e = .returned (.bool r) ∧ Below w.heap.size w w' := by
 have hu48 := Tryd.underlying48
 have HR0 := Aside0.mk hr0
 have HC0 := Aside0.mk hc0
 clear hr0 hc0
 have HB := Aside0.mk (Below.refl w.heap.size w)
 have H : (aD_.l0 k l0 l0 (l0.length : Int) 0) = some r := h
 clear h
 have H' := Aside0.mk H
 clear H
 go_enter Tryd.func35, Tryd.ntmps35
 go_wp2
 (try simp only [Act.put, lsa_, ls0_, ls1_])
 go_loopg [7] k (fun kq v7 w' => ∃ (x7_1 : Int), v7 = .int .i64 x7_1 ∧ Aside0 (aD_.l0 kq l0 l0 (l0.length : Int) x7_1 = some r) ∧ Aside0 (kq ≤ k) ∧ Aside0 (Below w.heap.size w w'))
 case atStart => exact ⟨(0), (by first | rfl | (simp; done) | (simp [*]; done)), H', ⟨Nat.le_refl _⟩, ⟨bz HB.out⟩⟩
 case round =>
  clear H'
  obtain ⟨x7_1, rfl, HA, HK1, HB⟩ := hrel
  cases gk with
  | zero => exact absurd HA.out (by simp [aD_.l0])
  | succ k1 =>
   have H := HA.out
   clear HA
   simp only [aD_.l0] at H
   by_cases c2 : x7_1 < (l0.length : Int)
   rotate_left
   ·rw [if_neg c2] at H
    have c2b0 : decide (x7_1 < (l0.length : Int)) = false := decide_eq_false c2
    clear c2
    obtain rfl := Option.some.inj H
    go_wp2
    go_ret
    exact ⟨by first | rfl | (simp [*, ap_, ao_] <;> rfl), bz HB.out⟩
   rw [if_pos c2] at H
   have c2b0 : decide (x7_1 < (l0.length : Int)) = true := decide_eq_true c2
   clear c2
   by_cases c3 : 0 ≤ x7_1
   rotate_left
   ·rw [if_neg c3] at H
    exact absurd H (by simp)
   rw [if_pos c3] at H
   have c3b0 : decide (0 ≤ x7_1) = true := decide_eq_true c3
   clear c3
   by_cases c4 : x7_1 < (l0.length : Int)
   rotate_left
   ·rw [if_neg c4] at H
    exact absurd H (by simp)
   rw [if_pos c4] at H
   have c4b0 : decide (x7_1 < (l0.length : Int)) = true := decide_eq_true c4
   clear c4
   by_cases c5 : ((ar_ l0 x7_1).f0) = (wrap64 (x7_1 + 1))
   rotate_left
   ·rw [if_neg c5] at H
    have c5b0 : (((ar_ l0 x7_1).f0) == (wrap64 (x7_1 + 1))) = false := beq_eq_false_iff_ne.mpr c5
    have c5b1 : (((ar_ l0 x7_1).f0) != (wrap64 (x7_1 + 1))) = true := bne_iff_ne.mpr c5
    obtain rfl := Option.some.inj H
    have p101 : 0 ≤ (x7_1 : Int) := of_decide_eq_true (by assumption)
    have q101 : x7_1 < (l0.length : Int) := of_decide_eq_true (by assumption)
    obtain ⟨ad101, A101_3, c101_3, e101, hx101_0, hx101_1, hx101_2, hx101_3, hl101_3, hi101_3⟩ := da_ HR0.out x7_1 p101 q101
    cases e101
    replace hx101_0 := bu_ HB.out hx101_0
    replace hx101_1 := bu_ HB.out hx101_1
    replace hx101_2 := bu_ HB.out hx101_2
    replace hx101_3 := bu_ HB.out hx101_3
    have HR101_3 := Aside0.mk hi101_3
    have HC101_3 := Aside0.mk hl101_3
    clear hi101_3 hl101_3
    replace p101 := eq_true p101
    replace q101 := eq_true q101
    go_wp2_with (first | ((with_reducible refine aL_ (N := 4) rfl ?_); refine bz_ ?hg (N := 4) ?hd (cs := #[.int .i64 0, .int .i64 0, .string (⟨#[]⟩ : ByteArray), .slice none 0 0]) (t := 48) ?hr ?_; (case hd => rfl); (case hg => rfl); (case hr => (go_simp; try rfl)); intro gb102 hg w20 hbox hb; have BK102 := Aside0.mk (hbox); have GW102 := Aside0.mk ((by rw [hg]; exact (ag_ (bz HB.out)) : w.heap.size ≤ gb102)); have GE102 := GW102; replace HB := Aside0.mk (ab_ (bz HB.out) hb); clear hb hbox hg; obtain ⟨hcz21_0, hcz21_1, hcz21_2, hcz21_3⟩ := cz4_ BK102.out; obtain ⟨hfz21_0, hfz21_1, hfz21_2, hfz21_3⟩ := fz4_ BK102.out))
    go_ret
    exact ⟨by first | rfl | (simp [*, ap_, ao_] <;> rfl), bq⟩
   rw [if_pos c5] at H
   have c5b0 : (((ar_ l0 x7_1).f0) == (wrap64 (x7_1 + 1))) = true := beq_iff_eq.mpr c5
   have c5b1 : (((ar_ l0 x7_1).f0) != (wrap64 (x7_1 + 1))) = false := bne_eq_false_iff_eq.mpr c5
   clear c5
   replace H := Option.bind_eq_some_iff.mp H
   obtain ⟨t103, A60, H⟩ := H
   (try dsimp only at H)
   have A6 := Aside0.mk A60
   clear A60
   by_cases c7 : t103 = true
   rotate_left
   ·replace c7 := Bool.eq_false_iff.mpr c7
    subst c7
    have H1 : (some false) = some r := by rw [if_neg (show ¬ (false = true) by decide)] at H; exact H
    clear H
    have H := H1
    clear H1
    obtain rfl := Option.some.inj H
    have p101 : 0 ≤ (x7_1 : Int) := of_decide_eq_true (by assumption)
    have q101 : x7_1 < (l0.length : Int) := of_decide_eq_true (by assumption)
    obtain ⟨ad101, A101_3, c101_3, e101, hx101_0, hx101_1, hx101_2, hx101_3, hl101_3, hi101_3⟩ := da_ HR0.out x7_1 p101 q101
    cases e101
    replace hx101_0 := bu_ HB.out hx101_0
    replace hx101_1 := bu_ HB.out hx101_1
    replace hx101_2 := bu_ HB.out hx101_2
    replace hx101_3 := bu_ HB.out hx101_3
    have HR101_3 := Aside0.mk hi101_3
    have HC101_3 := Aside0.mk hl101_3
    clear hi101_3 hl101_3
    replace p101 := eq_true p101
    replace q101 := eq_true q101
    go_wp2_with (first | ((with_reducible refine aL_ (N := 4) rfl ?_); refine bz_ ?hg (N := 4) ?hd (cs := #[.int .i64 0, .int .i64 0, .string (⟨#[]⟩ : ByteArray), .slice none 0 0]) (t := 48) ?hr ?_; (case hd => rfl); (case hg => rfl); (case hr => (go_simp; try rfl)); intro gb102 hg w18 hbox hb; have BK102 := Aside0.mk (hbox); have GW102 := Aside0.mk ((by rw [hg]; exact (ag_ (bz HB.out)) : w.heap.size ≤ gb102)); have GE102 := GW102; replace HB := Aside0.mk (ab_ (bz HB.out) hb); clear hb hbox hg; obtain ⟨hcz19_0, hcz19_1, hcz19_2, hcz19_3⟩ := cz4_ BK102.out; obtain ⟨hfz19_0, hfz19_1, hfz19_2, hfz19_3⟩ := fz4_ BK102.out) | (go_at_call 29; (with_reducible refine (aF_.calls ((ar_ l0 x7_1).f1) 0 x7_1 false _ A6.out).mono ?_); rintro e w' ⟨rfl, ⟨nd, rfl⟩⟩))
    go_ret
    exact ⟨by first | rfl | (simp [*, ap_, ao_] <;> rfl), bq⟩
   subst c7
   have H1 : ((aQ_.f k1 ((ar_ l0 x7_1).f2)).bind fun t104 => (if t104 = true then ((an_.f k1 ((ar_ l0 x7_1).f3)).bind fun t105 => (if t105 = true then (aD_.l0 k1 l0 l0 (l0.length : Int) (wrap64 (x7_1 + 1))) else (some false))) else (some false))) = some r := by rw [if_pos rfl] at H; exact H
   clear H
   have H := H1
   clear H1
   replace H := Option.bind_eq_some_iff.mp H
   obtain ⟨t104, A80, H⟩ := H
   (try dsimp only at H)
   have A8 := Aside0.mk A80
   clear A80
   by_cases c9 : t104 = true
   rotate_left
   ·replace c9 := Bool.eq_false_iff.mpr c9
    subst c9
    have H1 : (some false) = some r := by rw [if_neg (show ¬ (false = true) by decide)] at H; exact H
    clear H
    have H := H1
    clear H1
    obtain rfl := Option.some.inj H
    have p101 : 0 ≤ (x7_1 : Int) := of_decide_eq_true (by assumption)
    have q101 : x7_1 < (l0.length : Int) := of_decide_eq_true (by assumption)
    obtain ⟨ad101, A101_3, c101_3, e101, hx101_0, hx101_1, hx101_2, hx101_3, hl101_3, hi101_3⟩ := da_ HR0.out x7_1 p101 q101
    cases e101
    replace hx101_0 := bu_ HB.out hx101_0
    replace hx101_1 := bu_ HB.out hx101_1
    replace hx101_2 := bu_ HB.out hx101_2
    replace hx101_3 := bu_ HB.out hx101_3
    have HR101_3 := Aside0.mk hi101_3
    have HC101_3 := Aside0.mk hl101_3
    clear hi101_3 hl101_3
    replace p101 := eq_true p101
    replace q101 := eq_true q101
    go_wp2_with (first | ((with_reducible refine aL_ (N := 4) rfl ?_); refine bz_ ?hg (N := 4) ?hd (cs := #[.int .i64 0, .int .i64 0, .string (⟨#[]⟩ : ByteArray), .slice none 0 0]) (t := 48) ?hr ?_; (case hd => rfl); (case hg => rfl); (case hr => (go_simp; try rfl)); intro gb102 hg w16 hbox hb; have BK102 := Aside0.mk (hbox); have GW102 := Aside0.mk ((by rw [hg]; exact (ag_ (bz HB.out)) : w.heap.size ≤ gb102)); have GE102 := GW102; replace HB := Aside0.mk (ab_ (bz HB.out) hb); clear hb hbox hg; obtain ⟨hcz17_0, hcz17_1, hcz17_2, hcz17_3⟩ := cz4_ BK102.out; obtain ⟨hfz17_0, hfz17_1, hfz17_2, hfz17_3⟩ := fz4_ BK102.out) | (go_at_call 29; (with_reducible refine (aF_.calls ((ar_ l0 x7_1).f1) 0 x7_1 true _ A6.out).mono ?_); rintro e w' ⟨rfl, ⟨nd, rfl⟩⟩) | (go_at_call 36; (with_reducible refine (aQ_.calls k1 ((ar_ l0 x7_1).f2) false _ A8.out).mono ?_); rintro e w' ⟨rfl, ⟨nd, rfl⟩⟩))
    go_ret
    exact ⟨by first | rfl | (simp [*, ap_, ao_] <;> rfl), bq⟩
   subst c9
   have H1 : ((an_.f k1 ((ar_ l0 x7_1).f3)).bind fun t105 => (if t105 = true then (aD_.l0 k1 l0 l0 (l0.length : Int) (wrap64 (x7_1 + 1))) else (some false))) = some r := by rw [if_pos rfl] at H; exact H
   clear H
   have H := H1
   clear H1
   replace H := Option.bind_eq_some_iff.mp H
   obtain ⟨t105, A100, H⟩ := H
   (try dsimp only at H)
   have A10 := Aside0.mk A100
   clear A100
   have HC11 := Aside0.mk H
   clear H
   have p101 : 0 ≤ (x7_1 : Int) := of_decide_eq_true (by assumption)
   have q101 : x7_1 < (l0.length : Int) := of_decide_eq_true (by assumption)
   obtain ⟨ad101, A101_3, c101_3, e101, hx101_0, hx101_1, hx101_2, hx101_3, hl101_3, hi101_3⟩ := da_ HR0.out x7_1 p101 q101
   cases e101
   replace hx101_0 := bu_ HB.out hx101_0
   replace hx101_1 := bu_ HB.out hx101_1
   replace hx101_2 := bu_ HB.out hx101_2
   replace hx101_3 := bu_ HB.out hx101_3
   have HR101_3 := Aside0.mk hi101_3
   have HC101_3 := Aside0.mk hl101_3
   clear hi101_3 hl101_3
   replace p101 := eq_true p101
   replace q101 := eq_true q101
   go_upto_if 35 with (first | ((with_reducible refine aL_ (N := 4) rfl ?_); refine bz_ ?hg (N := 4) ?hd (cs := #[.int .i64 0, .int .i64 0, .string (⟨#[]⟩ : ByteArray), .slice none 0 0]) (t := 48) ?hr ?_; (case hd => rfl); (case hg => rfl); (case hr => (go_simp; try rfl)); intro gb102 hg w12 hbox hb; have BK102 := Aside0.mk (hbox); have GW102 := Aside0.mk ((by rw [hg]; exact (ag_ (bz HB.out)) : w.heap.size ≤ gb102)); have GE102 := GW102; replace HB := Aside0.mk (ab_ (bz HB.out) hb); clear hb hbox hg; obtain ⟨hcz13_0, hcz13_1, hcz13_2, hcz13_3⟩ := cz4_ BK102.out; obtain ⟨hfz13_0, hfz13_1, hfz13_2, hfz13_3⟩ := fz4_ BK102.out) | (go_at_call 29; (with_reducible refine (aF_.calls ((ar_ l0 x7_1).f1) 0 x7_1 true _ A6.out).mono ?_); rintro e w' ⟨rfl, ⟨nd, rfl⟩⟩) | (go_at_call 36; (with_reducible refine (aQ_.calls k1 ((ar_ l0 x7_1).f2) true _ A8.out).mono ?_); rintro e w' ⟨rfl, ⟨nd, rfl⟩⟩) | (go_at_call 24; (with_reducible refine (an_.calls k1 _ _ ((ar_ l0 x7_1).f3) t105 _ ?side1 ?side2 A10.out).mono ?_); (case side1 => exact Kd.bk_ HR101_3.out (bq)); (case side2 => exact HC101_3.out); rintro e w14 ⟨rfl, hb⟩; replace BK102 := Aside0.mk (aS_ (g := gb102) (o := .cells #[.int .i64 ((ar_ l0 x7_1).f0), .int .i64 ((ar_ l0 x7_1).f1), .string ((ar_ l0 x7_1).f2), .slice A101_3 ((ar_ l0 x7_1).f3).length c101_3] 48 (0, 0)) (by exact kj4_3 (kj4_2 (kj4_1 (kj4_0 (kz BK102.out))))) hb); replace HB := Aside0.mk (ab_ (bq) hb); (try clear hb)))
   (try simp only [Act.put, lsa_, ls0_, ls1_])
   have H := HC11.out
   clear HC11
   by_cases c15 : t105 = true
   rotate_left
   ·replace c15 := Bool.eq_false_iff.mpr c15
    subst c15
    have H1 : (some false) = some r := by rw [if_neg (show ¬ (false = true) by decide)] at H; exact H
    clear H
    have H := H1
    clear H1
    obtain rfl := Option.some.inj H
    go_wp2
    go_ret
    exact ⟨by first | rfl | (simp [*, ap_, ao_] <;> rfl), bq⟩
   subst c15
   have H1 : (aD_.l0 k1 l0 l0 (l0.length : Int) (wrap64 (x7_1 + 1))) = some r := by rw [if_pos rfl] at H; exact H
   clear H
   have H := H1
   clear H1
   have H' := Aside0.mk H
   clear H
   go_wp2
   go_roundg k1
   case measure => have := HK1.out; omega
   case rel => exact ⟨(wrap64 (x7_1 + 1)), (by first | rfl | (simp; done) | (simp [*]; done)), H', ⟨by have := HK1.out; omega⟩, ⟨bq⟩⟩
def cE_.f (l0 : List (S48)) : Option ((List (S48))) := (some (([] : List (S48)) : List (S48))).bind fun y101 => (if y101.length + l0.length < 2513169434916 then (some (y101 ++ l0)) else (none))
set_option maxHeartbeats 8000000 in
set_option maxRecDepth 100000 in
theorem cE_.calls (P0_ : Nat → Prop) (A0 : Option Addr) (c0 : Nat) (l0 : List (S48)) (r : List (S48)) (w : World) (hs0 : Kd.V k48 48 w w.heap.size (fun k_ => P0_ k_) (.slice A0 l0.length c0) l0) (h : cE_.f l0 = some r) :
  Calls Tryd.prog 60 #[.slice A0 l0.length c0] w fun e w' => ∃ v0_ : Value, e = .returned (v0_) ∧ Kd.N k48 48 w' w.heap.size (fun k_ => (P0_ k_ ∨ w.heap.size ≤ k_)) v0_ r ∧ Below w.heap.size w w' := by
 have HO0 := Aside0.mk (show Kd.V k48 48 w w.heap.size (fun k_ => (P0_ k_ ∨ w.heap.size ≤ k_)) (.slice A0 l0.length c0) l0 from Kd.cG_ hs0 (fun k_ hk => .inl hk))
 have HB := Aside0.mk (Below.refl w.heap.size w)
 have H : ((some (([] : List (S48)) : List (S48))).bind fun y101 => (if y101.length + l0.length < 2513169434916 then (some (y101 ++ l0)) else (none))) = some r := h
 clear h
 obtain ⟨y101, hy101⟩ : ∃ y_ : List (S48), y_ = (([] : List (S48))) := ⟨_, rfl⟩
 replace H : (if y101.length + l0.length < 2513169434916 then (some (y101 ++ l0)) else (none)) = some r := by first | (rw [hy101]; with_reducible exact H) | (have H2_ := (Option.bind_some _ _).symm.trans H; rw [hy101]; with_reducible exact H2_) | (have H2_ := (Option.bind_some _ _).symm.trans H; with_reducible exact H2_) | with_reducible exact H | (rw [hy101]; exact H) | exact H
 have Ny101 := Aside0.mk hy101
 clear hy101
 by_cases c2 : y101.length + l0.length < 2513169434916
 rotate_left
 ·rw [if_neg c2] at H
  exact absurd H (by simp)
 rw [if_pos c2] at H
 have LMc2 := Aside0.mk c2
 clear c2
 obtain ⟨y104, hy104⟩ : ∃ y_ : List (S48), y_ = (y101 ++ l0) := ⟨_, rfl⟩
 replace H : (some y104) = some r := by first | (rw [hy104]; with_reducible exact H) | (have H2_ := (Option.bind_some _ _).symm.trans H; rw [hy104]; with_reducible exact H2_) | (have H2_ := (Option.bind_some _ _).symm.trans H; with_reducible exact H2_) | with_reducible exact H | (rw [hy104]; exact H) | exact H
 have Ny104 := Aside0.mk hy104
 clear hy104
 obtain rfl := Option.some.inj H
 have qn_ : ∀ (w : World) (a : Option Addr) (n c n' c' : Nat), (binOp .eql 24 (.slice a n c) (.slice none n' c')).run Tryd.prog w = .ok (.bool a.isNone) w := fun w a n c n' c' => Lib.run_eql_slice_nil w _ _ a n c n' c' Tryd.underlying24
 rcases A0 with _ | A0s
 ·have hl0_ : l0 = [] := by
   rcases l0 with _ | ⟨x_, l_⟩
   ·rfl
   ·obtain ⟨ad_, h_, _⟩ := (Kd.V_reads' HO0.out).2.2.2.2 (by simp)
    cases h_
  subst hl0_
  have hy_ : y104 = [] := by rw [Ny104.out, Ny101.out]; rfl
  go_enter Tryd.func60, Tryd.ntmps60
  go_wp2
  go_ret
  try rw [hy_]
  exact ⟨_, rfl, Kd.N_nil _ _ _ _ _, Below.refl _ _⟩
 go_enter Tryd.func60, Tryd.ntmps60
 go_wp2_with (first | ((with_reducible refine aL_ (N := 5) rfl ?_); refine Kd.N_lit k48 _ 48 ?hg (N' := 5) ?hd (xs := ([] : List (S48))) (inner := []) (ok := (fun k_ => (P0_ k_ ∨ w.heap.size ≤ k_))) (okp := (fun k_ => (P0_ k_ ∨ w.heap.size ≤ k_))) ?hr ?hp (fun _ hk => hk) ((show ∀ k_, w.heap.size ≤ k_ → (fun k_ => (P0_ k_ ∨ w.heap.size ≤ k_)) k_ from fun k_ hk => (.inr (Nat.le_trans (ag_ (bz HB.out)) hk))) _ (Nat.le_refl _)) (Below.refl _ _) (Nat.le_refl _) (by simp) ?_; (case hd => rfl); (case hg => rfl); (case hr => (go_simp; try rfl)); (case hp => exact (Reps.none _ _)); intro v102 w3 ho4 hb hg_ hnew_; clear hg_ hnew_; (first | rw [← Ny101.out] at ho4 | (simp only [Int.reduceToNat] at ho4; rw [← Ny101.out] at ho4)); replace HO0 := Aside0.mk (Kd.dB_ (vz HO0.out) (Kd.N_base ho4) hb); have HO103 := Aside0.mk (Kd.N_lower ho4 (ag_ (bz HB.out))); replace HB := Aside0.mk (ab_ (bz HB.out) hb); clear hb ho4) | ((with_reducible refine bs_ (b := .append) (xs := #[.tmp 5, .tmp 6]) rfl ?_); at_builtin; refine Kd.N_append_rows k48 (w0 := w) w.heap.size rfl (.tmp 5) (.tmp 6) 24 48 (.agg #[(.int .i64 0), (.int .i64 0), (.string ⟨#[]⟩), (.slice none 0 0)]) 56 rfl Tryd.underlying24 info48 rfl (by decide) (by omega) v102 y101 l0 _ _ _ (fun k_ => (P0_ k_ ∨ w.heap.size ≤ k_)) (fun k_ => ((fun k_ => (P0_ k_ ∨ w.heap.size ≤ k_))) k_ ∧ some k_ ≠ (v102 : Value).ownBlock) rfl rfl ?aO ?aR (fun _ hk => hk) ?aF ?aB ?aS ?aL ?_; (case aR => exact (by skip; exact Kd.V_F (Kd.cG_ (ok' := (fun k_ => ((fun k_ => (P0_ k_ ∨ w.heap.size ≤ k_))) k_ ∧ some k_ ≠ (v102 : Value).ownBlock)) (HO0.out) (fun k_ hk => ⟨hk.1, hk.2⟩)))); (case aB => exact (bz HB.out)); (case aF => exact (fun k_ hk => (.inr (Nat.le_trans (ag_ (bz HB.out)) hk)))); (case aO => exact (nz HO103.out)); (case aS => exact (ag_ (bz HB.out))); (case aL => have := LMc2.out; omega); intro v105 w5 ho hb hg hat; rw [← Ny104.out] at ho; replace HO0 := Aside0.mk (Kd.V_afterv (ok := (fun k_ => (P0_ k_ ∨ w.heap.size ≤ k_))) (vz HO0.out) hg hat); replace HB := Aside0.mk (hb); have HO106 := Aside0.mk (ho); clear HO103; clear ho hb hg hat))
 go_ret
 exact ⟨_, by first | rfl | (simp [*, ap_, ao_] <;> rfl), nz HO106.out, bz HB.out⟩
def aZ_.l0 : Nat → List (S48) → List (S48) → Int → Int → Option ((List (S48)) × Int)
 | 0, _, _, _, _ => none
 | k + 1, x10, x27, x28, x29 => if x29 < x28 then (if 0 ≤ x29 then (if x29 < (x27.length : Int) then ((cj_.f ((ar_ x27 x29).f3)).bind fun t112 => (if x10.length < 2513169434916 then (aZ_.l0 k (x10 ++ [(⟨(ar_ x27 x29).f0, (ar_ x27 x29).f1, (ar_ x27 x29).f2, t112⟩ : S48)]) x27 x28 (wrap64 (x29 + 1))) else (none))) else (none)) else (none)) else (some (x10, 0))
def aZ_.f (k : Nat) (l0 : List (S48)) (a1 : Int) (a2 : ByteArray) (l3 : List (S59)) : Option ((List (S48)) × Int) := if (l0.length : Int) = 16 then (some (([] : List (S48)), 5)) else ((cE_.f l0).bind fun t104 => (if t104.length < 2513169434916 then ((some (t104 ++ [(⟨wrap64 ((l0.length : Int) + 1), a1, a2, l3⟩ : S48)] : List (S48))).bind fun y107 => (aZ_.l0 k (([] : List (S48))) y107 (y107.length : Int) 0)) else (none)))
set_option maxHeartbeats 8000000 in
set_option maxRecDepth 100000 in
theorem aZ_.calls (k : Nat) (P0_ : Nat → Prop) (A0 : Option Addr) (c0 : Nat) (l0 : List (S48)) (a1 : Int) (a2 : ByteArray) (P3_ : Nat → Prop) (A3 : Option Addr) (c3 : Nat) (l3 : List (S59)) (r1 : List (S48)) (r2 : Int) (w : World) (hs0 : Kd.V k48 48 w w.heap.size (fun k_ => P0_ k_) (.slice A0 l0.length c0) l0) (hs3 : Kd.V k59 59 w w.heap.size (fun k_ => P3_ k_) (.slice A3 l3.length c3) l3) (h : aZ_.f k l0 a1 a2 l3 = some (r1, r2)) :
  Calls Tryd.prog 37 #[.slice A0 l0.length c0, .int .i64 a1, .string a2, .slice A3 l3.length c3] w fun e w' => ∃ v0_ : Value, e = .returned (.tuple #[v0_, .int .i64 r2]) ∧ Kd.S k48 48 w' w.heap.size (fun k_ => (w.heap.size ≤ k_)) v0_ r1 ∧ Below w.heap.size w w' := by
 have hu48 := Tryd.underlying48
 have HO0 := Aside0.mk (show Kd.V k48 48 w w.heap.size (fun k_ => ((P0_ k_ ∨ P3_ k_) ∨ w.heap.size ≤ k_)) (.slice A0 l0.length c0) l0 from Kd.cG_ hs0 (fun k_ hk => .inl (.inl hk)))
 have HO3 := Aside0.mk (show Kd.V k59 59 w w.heap.size (fun k_ => ((P0_ k_ ∨ P3_ k_) ∨ w.heap.size ≤ k_)) (.slice A3 l3.length c3) l3 from Kd.cG_ hs3 (fun k_ hk => .inl (.inr hk)))
 have HB := Aside0.mk (Below.refl w.heap.size w)
 have H : (if (l0.length : Int) = 16 then (some (([] : List (S48)), 5)) else ((cE_.f l0).bind fun t104 => (if t104.length < 2513169434916 then ((some (t104 ++ [(⟨wrap64 ((l0.length : Int) + 1), a1, a2, l3⟩ : S48)] : List (S48))).bind fun y107 => (aZ_.l0 k (([] : List (S48))) y107 (y107.length : Int) 0)) else (none)))) = some (r1, r2) := h
 clear h
 by_cases c5 : (l0.length : Int) = 16
 rotate_left
 ·rw [if_neg c5] at H
  have c5b0 : ((l0.length : Int) == 16) = false := beq_eq_false_iff_ne.mpr c5
  have c5b1 : ((l0.length : Int) != 16) = true := bne_iff_ne.mpr c5
  obtain ⟨y101, hy101⟩ : ∃ y_ : List (S48), y_ = (([] : List (S48))) := ⟨_, rfl⟩
  replace H : ((cE_.f l0).bind fun t104 => (if t104.length < 2513169434916 then ((some (t104 ++ [(⟨wrap64 ((l0.length : Int) + 1), a1, a2, l3⟩ : S48)] : List (S48))).bind fun y107 => (aZ_.l0 k y101 y107 (y107.length : Int) 0)) else (none))) = some (r1, r2) := by first | (rw [hy101]; with_reducible exact H) | (have H2_ := (Option.bind_some _ _).symm.trans H; rw [hy101]; with_reducible exact H2_) | (have H2_ := (Option.bind_some _ _).symm.trans H; with_reducible exact H2_) | with_reducible exact H | (rw [hy101]; exact H) | exact H
  have Ny101 := Aside0.mk hy101
  clear hy101
  replace H := Option.bind_eq_some_iff.mp H
  obtain ⟨t104, A60, H⟩ := H
  (try dsimp only at H)
  have A6 := Aside0.mk A60
  clear A60
  by_cases c7 : t104.length < 2513169434916
  rotate_left
  ·rw [if_neg c7] at H
   exact absurd H (by simp)
  rw [if_pos c7] at H
  have LMc7 := Aside0.mk c7
  clear c7
  obtain ⟨y107, hy107⟩ : ∃ y_ : List (S48), y_ = (t104 ++ [(⟨wrap64 ((l0.length : Int) + 1), a1, a2, l3⟩ : S48)]) := ⟨_, rfl⟩
  replace H : (aZ_.l0 k y101 y107 (y107.length : Int) 0) = some (r1, r2) := by first | (rw [hy107]; with_reducible exact H) | (have H2_ := (Option.bind_some _ _).symm.trans H; rw [hy107]; with_reducible exact H2_) | (have H2_ := (Option.bind_some _ _).symm.trans H; with_reducible exact H2_) | with_reducible exact H | (rw [hy107]; exact H) | exact H
  have Ny107 := Aside0.mk hy107
  clear hy107
  have H' := Aside0.mk H
  clear H
  go_enter Tryd.func37, Tryd.ntmps37
  go_wp2_with (first | ((with_reducible refine aL_ (N := 16) rfl ?_); refine Kd.S_lit k48 _ 48 ?hg (N := 16) ?hd (xs := ([] : List (S48))) (inner := []) (ok := fun _ => True) (okp := fun _ => True) ?hr ?hp (fun _ hk => hk) trivial (Below.refl _ _) (Nat.le_refl _) (by simp) ?_; (case hd => rfl); (case hg => rfl); (case hr => (go_simp; try rfl)); (case hp => exact (Reps.none _ _)); intro v102 w8 ho9 hb hg_ hnew_; clear hg_ hnew_; (first | rw [← Ny101.out] at ho9 | (simp only [Int.reduceToNat] at ho9; rw [← Ny101.out] at ho9)); replace HO0 := Aside0.mk (Kd.dB_ (vz HO0.out) (Kd.S_base ho9) hb); replace HO3 := Aside0.mk (Kd.dB_ (vz HO3.out) (Kd.S_base ho9) hb); have HO103 := Aside0.mk (Kd.du_ (Kd.S_newM (M := fun k_ => (w.heap.size ≤ k_)) ho9 (ag_ (bz HB.out)) (fun k_ h_ => h_)) (ag_ (bz HB.out))); replace HB := Aside0.mk (ab_ (bz HB.out) hb); clear hb ho9) | ((with_reducible refine as_ (f := 60) rfl ?_); refine bw_ (some 18) rfl rfl Tryd.func60 (by kernel_rfl) rfl #[.slice A0 l0.length c0] rfl (by first | rfl | (simp only [lma_, lmc_, lmn_]; first | done | rfl)) ?_; (with_reducible refine (cE_.calls (fun k_ => (((P0_ k_ ∨ P3_ k_) ∨ w.heap.size ≤ k_) ∧ some k_ ≠ (v102 : Value).ownBlock)) _ _ l0 t104 _ ?side1 A6.out).mono ?_); (case side1 => exact HO0.out); rintro e w10 ⟨v105, rfl, ho0, hb⟩; refine ⟨_, rfl, ?_⟩; replace HO0 := Aside0.mk (Kd.dB_ (vz HO0.out) (Kd.N_base ho0) hb); replace HO3 := Aside0.mk (Kd.dB_ (vz HO3.out) (Kd.N_base ho0) hb); have HO106 := Aside0.mk (Kd.N_lower (Kd.cN_ (ok' := fun k_ => ((P0_ k_ ∨ P3_ k_) ∨ w.heap.size ≤ k_) ∧ some k_ ≠ (v102 : Value).ownBlock) ho0 (fun k_ hk_ => ⟨Or.elim hk_ (fun hs_ => hs_.1) (fun hn_ => (.inr (Nat.le_trans (ag_ (bz HB.out)) hn_))), Or.elim hk_ (fun hs_ => hs_.2) (fun hn_ => (Kd.fresh' (Kd.S_lt (sz HO103.out)) k_ hn_))⟩)) (ag_ (bz HB.out))); replace HO103 := Aside0.mk (Kd.bW_ (sz HO103.out) (Kd.N_base ho0) hb); replace HB := Aside0.mk (ab_ (bz HB.out) hb); (try clear hb); (try clear ho0)) | ((with_reducible refine bs_ (b := .append) (xs := #[.tmp 18, .tmp 26]) rfl ?_); at_builtin; refine Kd.N_append k48 (w0 := w) w.heap.size rfl (.tmp 18) (.tmp 26) 24 48 (.agg #[(.int .i64 0), (.int .i64 0), (.string ⟨#[]⟩), (.slice none 0 0)]) 56 rfl Tryd.underlying24 info48 rfl (by decide) (by omega) v105 t104 (⟨wrap64 ((l0.length : Int) + 1), a1, a2, l3⟩ : S48) [.int .i64 (wrap64 ((l0.length : Int) + 1)), .int .i64 a1, .string a2, .slice A3 l3.length c3] (fun k_ => ((P0_ k_ ∨ P3_ k_) ∨ w.heap.size ≤ k_) ∧ some k_ ≠ (v102 : Value).ownBlock) (fun k_ => ((fun k_ => ((P0_ k_ ∨ P3_ k_) ∨ w.heap.size ≤ k_) ∧ some k_ ≠ (v102 : Value).ownBlock)) k_ ∧ some k_ ≠ (v105 : Value).ownBlock) rfl rfl ?aP (fun _ hk => hk) ?aF ?aO ?aB ?aS ?aL ?_; (case aP => exact (k48_mkF _ _ (⟨wrap64 ((l0.length : Int) + 1), a1, a2, l3⟩ : S48) (Kd.V_reads' (Kd.cG_ (ok' := (fun k_ => ((fun k_ => ((P0_ k_ ∨ P3_ k_) ∨ w.heap.size ≤ k_) ∧ some k_ ≠ (v102 : Value).ownBlock)) k_ ∧ some k_ ≠ (v105 : Value).ownBlock)) (HO3.out) (fun k_ hk => ⟨⟨hk.1.1, hk.1.2⟩, hk.2⟩))).2.1 (Kd.V_F (Kd.cG_ (ok' := (fun k_ => ((fun k_ => ((P0_ k_ ∨ P3_ k_) ∨ w.heap.size ≤ k_) ∧ some k_ ≠ (v102 : Value).ownBlock)) k_ ∧ some k_ ≠ (v105 : Value).ownBlock)) (HO3.out) (fun k_ hk => ⟨⟨hk.1.1, hk.1.2⟩, hk.2⟩))))); (case aB => exact (bz HB.out)); (case aF => exact (fun k_ hk => ⟨(.inr (Nat.le_trans (ag_ (bz HB.out)) hk)), Kd.fresh' (Kd.S_lt (sz HO103.out)) k_ hk⟩)); (case aO => exact (nz HO106.out)); (case aS => exact (ag_ (bz HB.out))); (case aL => have := LMc7.out; omega); intro v108 w11 ho hb hg hat; rw [← Ny107.out] at ho; replace HO0 := Aside0.mk (Kd.V_afterv (ok := (fun k_ => ((P0_ k_ ∨ P3_ k_) ∨ w.heap.size ≤ k_) ∧ some k_ ≠ (v102 : Value).ownBlock)) (vz HO0.out) hg hat); replace HO3 := Aside0.mk (Kd.V_afterv (ok := (fun k_ => ((P0_ k_ ∨ P3_ k_) ∨ w.heap.size ≤ k_) ∧ some k_ ≠ (v102 : Value).ownBlock)) (vz HO3.out) hg hat); replace HO103 := Aside0.mk (Kd.S_after (ok := (fun k_ => (w.heap.size ≤ k_))) (sz (Kd.bE_ HO103.out (fun _ hk => ⟨hk.1.1, hk.2⟩))) hg hat); replace HB := Aside0.mk (hb); have HO109 := Aside0.mk (ho); clear HO106; clear ho hb hg hat; obtain ⟨Ao12, co12, eo12⟩ := Kd.N_slice HO109.out; subst eo12))
  (try simp only [Act.put, lsa_, ls0_, ls1_])
  go_loopg [10, 29] k (fun kq v10 v29 w' => ∃ (x10_1 : List (S48)) (x29_1 : Int), v29 = .int .i64 x29_1 ∧ Aside0 (aZ_.l0 kq x10_1 y107 (y107.length : Int) x29_1 = some (r1, r2)) ∧ Aside0 (kq ≤ k) ∧ Aside0 (Kd.S k48 48 w' w.heap.size (fun k_ => (w.heap.size ≤ k_) ∧ some k_ ≠ ((.slice Ao12 y107.length co12) : Value).ownBlock) v10 x10_1) ∧ Aside0 (Kd.N k48 48 w' w.heap.size (fun k_ => ((P0_ k_ ∨ P3_ k_) ∨ w.heap.size ≤ k_) ∧ some k_ ≠ (v10 : Value).ownBlock) (.slice Ao12 y107.length co12) y107) ∧ Aside0 (Below w.heap.size w w'))
  case atStart => exact ⟨(y101), (0), (by first | rfl | (simp; done) | (simp [*]; done)), H', ⟨Nat.le_refl _⟩, ⟨sz HO103.out⟩, ⟨nz HO109.out⟩, ⟨bz HB.out⟩⟩
  case round =>
   clear H'
   obtain ⟨x10_1, x29_1, rfl, HA, HK1, HO_10, HO_27, HB⟩ := hrel
   cases gk with
   | zero => exact absurd HA.out (by simp [aZ_.l0])
   | succ k1 =>
    have H := HA.out
    clear HA
    simp only [aZ_.l0] at H
    by_cases c13 : x29_1 < (y107.length : Int)
    rotate_left
    ·rw [if_neg c13] at H
     have c13b0 : decide (x29_1 < (y107.length : Int)) = false := decide_eq_false c13
     clear c13
     simp only [Option.some.injEq, Prod.mk.injEq] at H
     obtain ⟨rfl, rfl⟩ := H
     go_wp2
     go_ret2
     exact ⟨_, by first | rfl | (simp [*, ap_, ao_] <;> rfl), sz (Kd.bE_ HO_10.out (fun _ hk => hk.1)), bz HB.out⟩
    rw [if_pos c13] at H
    have c13b0 : decide (x29_1 < (y107.length : Int)) = true := decide_eq_true c13
    clear c13
    by_cases c14 : 0 ≤ x29_1
    rotate_left
    ·rw [if_neg c14] at H
     exact absurd H (by simp)
    rw [if_pos c14] at H
    have c14b0 : decide (0 ≤ x29_1) = true := decide_eq_true c14
    clear c14
    by_cases c15 : x29_1 < (y107.length : Int)
    rotate_left
    ·rw [if_neg c15] at H
     exact absurd H (by simp)
    rw [if_pos c15] at H
    have c15b0 : decide (x29_1 < (y107.length : Int)) = true := decide_eq_true c15
    clear c15
    replace H := Option.bind_eq_some_iff.mp H
    obtain ⟨t112, A160, H⟩ := H
    (try dsimp only at H)
    have A16 := Aside0.mk A160
    clear A160
    by_cases c17 : x10_1.length < 2513169434916
    rotate_left
    ·rw [if_neg c17] at H
     exact absurd H (by simp)
    rw [if_pos c17] at H
    have LMc17 := Aside0.mk c17
    clear c17
    obtain ⟨y115, hy115⟩ : ∃ y_ : List (S48), y_ = (x10_1 ++ [(⟨(ar_ y107 x29_1).f0, (ar_ y107 x29_1).f1, (ar_ y107 x29_1).f2, t112⟩ : S48)]) := ⟨_, rfl⟩
    replace H : (aZ_.l0 k1 y115 y107 (y107.length : Int) (wrap64 (x29_1 + 1))) = some (r1, r2) := by first | (rw [hy115]; with_reducible exact H) | (have H2_ := (Option.bind_some _ _).symm.trans H; rw [hy115]; with_reducible exact H2_) | (have H2_ := (Option.bind_some _ _).symm.trans H; with_reducible exact H2_) | with_reducible exact H | (rw [hy115]; exact H) | exact H
    have Ny115 := Aside0.mk hy115
    clear hy115
    have H' := Aside0.mk H
    clear H
    have p110 : 0 ≤ (x29_1 : Int) := of_decide_eq_true (by assumption)
    have q110 : x29_1 < (y107.length : Int) := of_decide_eq_true (by assumption)
    obtain ⟨ad110, A110_3, c110_3, e110, hx110_0, hx110_1, hx110_2, hx110_3, hl110_3, hi110_3⟩ := da_ (Kd.N_reads' HO_27.out).2.2 x29_1 p110 q110
    cases e110
    obtain ⟨ce110, hce110, hMe110, hcc110⟩ := Kd.N_get HO_27.out z48 x29_1 p110 (by first | exact q110 | exact of_decide_eq_true (by assumption) | (have e_ := (Kd.N_reads' HO_27.out).1; omega))
    obtain ⟨ua110_3, uc110_3, rfl, ul110_3, ge110_3⟩ := k48_openF hMe110
    have hv110_3 := hcc110 3 _ rfl
    rw [cd_ _ _ 3 (by omega)] at hv110_3
    replace hv110_3 := Option.some.inj (hv110_3.symm.trans hx110_3)
    injection hv110_3 with hva_ hvn_ hvc_
    rw [hva_] at ge110_3
    rw [hvc_] at ul110_3
    have HL110_3 := Aside0.mk (show Kd.V k59 59 _ w.heap.size _ _ ((ar_ y107 x29_1).f3) from Kd.V_mk ul110_3 ge110_3)
    clear hva_ hvn_ hvc_ ge110_3 ul110_3
    clear hcc110 hce110
    have HR110_3 := Aside0.mk hi110_3
    have HC110_3 := Aside0.mk hl110_3
    clear hi110_3 hl110_3
    replace p110 := eq_true p110
    replace q110 := eq_true q110
    go_wp2_with (first | ((with_reducible refine aL_ (N := 12) rfl ?_); refine bz_ ?hg (N := 12) ?hd (cs := #[.int .i64 0, .int .i64 0, .string (⟨#[]⟩ : ByteArray), .slice none 0 0]) (t := 48) ?hr ?_; (case hd => rfl); (case hg => rfl); (case hr => (go_simp; try rfl)); intro gb111 hg w18 hbox hb; replace HO_10 := Aside0.mk (Kd.bF_ (Kd.S_elderB (sz HO_10.out) gb111 (Nat.le_of_eq hg.symm)) hb); replace HO_27 := Aside0.mk (Kd.N_below (Kd.N_elderB (nz HO_27.out) gb111 (Nat.le_of_eq hg.symm)) hb); replace HL110_3 := Aside0.mk (Kd.V_below (Kd.V_elderB (vz HL110_3.out) gb111 (Nat.le_of_eq hg.symm)) hb); replace HR110_3 := Aside0.mk (Kd.bk_ (by repeat (first | (with_reducible exact HR110_3.out) | (with_reducible first | refine Kd.bn_ ?_ _ | refine Kd.bm_ ?_ _ | refine Kd.bH_ ?_) | exact HR110_3.out)) hb); have BK111 := Aside0.mk (hbox); have GW111 := Aside0.mk ((by rw [hg]; exact (ag_ (bz HB.out)) : w.heap.size ≤ gb111)); have GE111 := GW111; replace HB := Aside0.mk (ab_ (bz HB.out) hb); clear hb hbox hg; obtain ⟨hcz19_0, hcz19_1, hcz19_2, hcz19_3⟩ := cz4_ BK111.out; obtain ⟨hfz19_0, hfz19_1, hfz19_2, hfz19_3⟩ := fz4_ BK111.out) | ((with_reducible refine as_ (f := 31) rfl ?_); refine bw_ (some 35) rfl rfl Tryd.func31 (by kernel_rfl) rfl #[.slice A110_3 ((ar_ y107 x29_1).f3).length c110_3] rfl (by first | rfl | (simp only [lma_, lmc_, lmn_]; first | done | rfl)) ?_; (with_reducible refine (cj_.calls _ _ ((ar_ y107 x29_1).f3) t112 _ ?side1 ?side2 A16.out).mono ?_); (case side1 => repeat (first | exact ((Kd.V_reads' (vz (Kd.cG_ (Kd.V_far (p := ⟨gb111, 3, none⟩) (Kd.V_far (p := ⟨gb111, 2, none⟩) (Kd.V_far (p := ⟨gb111, 1, none⟩) (Kd.V_far (p := ⟨gb111, 0, none⟩) (Kd.cG_ HL110_3.out (fun k_ hk => (⟨hk, hk.2⟩ : _ ∧ k_ ≠ gb111))) (fun _ hk => hk.2) (.int .i64 ((ar_ y107 x29_1).f0))) (fun _ hk => hk.2) (.int .i64 ((ar_ y107 x29_1).f1))) (fun _ hk => hk.2) (.string ((ar_ y107 x29_1).f2))) (fun _ hk => hk.2) (.slice A110_3 ((ar_ y107 x29_1).f3).length c110_3)) (fun _ h_ => h_.1)))).2.2) | (with_reducible first | refine Kd.bn_ ?_ _ | refine Kd.bm_ ?_ _ | refine Kd.bH_ ?_))); (case side2 => exact HC110_3.out); rintro e w20 ⟨v113, rfl, ho0, hb⟩; refine ⟨_, rfl, ?_⟩; replace HO_10 := Aside0.mk (Kd.bW_ (sz (Kd.bE_ (Kd.S_far (p := ⟨gb111, 3, none⟩) (Kd.S_far (p := ⟨gb111, 2, none⟩) (Kd.S_far (p := ⟨gb111, 1, none⟩) (Kd.S_far (p := ⟨gb111, 0, none⟩) (Kd.bE_ HO_10.out (fun k_ hk => (⟨hk, hk.2⟩ : _ ∧ k_ ≠ gb111))) (fun _ hk => hk.2) (.int .i64 ((ar_ y107 x29_1).f0))) (fun _ hk => hk.2) (.int .i64 ((ar_ y107 x29_1).f1))) (fun _ hk => hk.2) (.string ((ar_ y107 x29_1).f2))) (fun _ hk => hk.2) (.slice A110_3 ((ar_ y107 x29_1).f3).length c110_3)) (fun _ h_ => h_.1))) (Kd.bh_ ho0) hb); replace HO_27 := Aside0.mk (Kd.N_elder' (nz (Kd.cN_ (Kd.N_far (p := ⟨gb111, 3, none⟩) (Kd.N_far (p := ⟨gb111, 2, none⟩) (Kd.N_far (p := ⟨gb111, 1, none⟩) (Kd.N_far (p := ⟨gb111, 0, none⟩) (Kd.cN_ HO_27.out (fun k_ hk => (⟨hk, hk.2⟩ : _ ∧ k_ ≠ gb111))) (fun _ hk => hk.2) (.int .i64 ((ar_ y107 x29_1).f0))) (fun _ hk => hk.2) (.int .i64 ((ar_ y107 x29_1).f1))) (fun _ hk => hk.2) (.string ((ar_ y107 x29_1).f2))) (fun _ hk => hk.2) (.slice A110_3 ((ar_ y107 x29_1).f3).length c110_3)) (fun _ h_ => h_.1))) (Kd.bh_ ho0) hb); have HO114 := Aside0.mk (Kd.bi_ (Kd.R_newM (M := fun k_ => (w.heap.size ≤ k_)) ho0 (ag_ (bq)) (fun k_ h_ => h_)) (ag_ (bq))); replace HR110_3 := Aside0.mk (Kd.bk_ ((Kd.V_reads' (vz (Kd.cG_ (Kd.V_far (p := ⟨gb111, 3, none⟩) (Kd.V_far (p := ⟨gb111, 2, none⟩) (Kd.V_far (p := ⟨gb111, 1, none⟩) (Kd.V_far (p := ⟨gb111, 0, none⟩) (Kd.cG_ HL110_3.out (fun k_ hk => (⟨hk, hk.2⟩ : _ ∧ k_ ≠ gb111))) (fun _ hk => hk.2) (.int .i64 ((ar_ y107 x29_1).f0))) (fun _ hk => hk.2) (.int .i64 ((ar_ y107 x29_1).f1))) (fun _ hk => hk.2) (.string ((ar_ y107 x29_1).f2))) (fun _ hk => hk.2) (.slice A110_3 ((ar_ y107 x29_1).f3).length c110_3)) (fun _ h_ => h_.1)))).2.2) hb); replace HL110_3 := Aside0.mk (Kd.dB_ (vz (Kd.cG_ (Kd.V_far (p := ⟨gb111, 3, none⟩) (Kd.V_far (p := ⟨gb111, 2, none⟩) (Kd.V_far (p := ⟨gb111, 1, none⟩) (Kd.V_far (p := ⟨gb111, 0, none⟩) (Kd.cG_ HL110_3.out (fun k_ hk => (⟨hk, hk.2⟩ : _ ∧ k_ ≠ gb111))) (fun _ hk => hk.2) (.int .i64 ((ar_ y107 x29_1).f0))) (fun _ hk => hk.2) (.int .i64 ((ar_ y107 x29_1).f1))) (fun _ hk => hk.2) (.string ((ar_ y107 x29_1).f2))) (fun _ hk => hk.2) (.slice A110_3 ((ar_ y107 x29_1).f3).length c110_3)) (fun _ h_ => h_.1))) (Kd.bh_ ho0) hb); replace BK111 := Aside0.mk (aS_ (g := gb111) (o := .cells #[.int .i64 ((ar_ y107 x29_1).f0), .int .i64 ((ar_ y107 x29_1).f1), .string ((ar_ y107 x29_1).f2), .slice A110_3 ((ar_ y107 x29_1).f3).length c110_3] 48 (0, 0)) (by exact kj4_3 (kj4_2 (kj4_1 (kj4_0 (kz BK111.out))))) hb); replace HB := Aside0.mk (ab_ (bq) hb); (try clear hb); (try clear ho0); obtain ⟨Ao21, co21, eo21⟩ := Kd.bo_ HO114.out; subst eo21; obtain ⟨hcz22_0, hcz22_1, hcz22_2, hcz22_3⟩ := cz4_ BK111.out; obtain ⟨hfz22_0, hfz22_1, hfz22_2, hfz22_3⟩ := fz4_ BK111.out) | ((with_reducible refine gate_store (t := 26) (p := 36) rfl ?_); refine dA_ (t := 26) (p := 36) (v := ?vo_w23) (w1 := (w20.setCell ⟨gb111, 3, none⟩ (.slice Ao21 t112.length co21))) ?hg ?ho ?hn ?hr ?_; (case ho => rfl); (case hg => rfl); (case hn => rfl); (case hr => (go_simp; try rfl)); intro w23 hw; replace HO_10 : Aside0 (Kd.S k48 48 w23 w.heap.size (fun k_ => (w.heap.size ≤ k_) ∧ some k_ ≠ (.slice (some ad110) y107.length co12 : Value).ownBlock ∧ some k_ ≠ (.slice Ao21 t112.length co21 : Value).ownBlock ∧ k_ ≠ gb111) u10 x10_1) := ⟨(by rw [hw]; exact (sz (Kd.bE_ (Kd.S_far (p := ⟨gb111, 3, none⟩) (Kd.bE_ HO_10.out (fun k_ hk => (⟨hk, hk.1.2⟩ : _ ∧ k_ ≠ gb111))) (fun _ hk => hk.2) (.slice Ao21 t112.length co21)) (fun _ hk => ⟨hk.1.1.1.1, ⟨hk.1.1.1.2, ⟨hk.1.2, hk.1.1.2⟩⟩⟩))))⟩; replace HO_27 : Aside0 (Kd.N k48 48 w23 w.heap.size (fun k_ => ((P0_ k_ ∨ P3_ k_) ∨ w.heap.size ≤ k_) ∧ some k_ ≠ (u10 : Value).ownBlock ∧ some k_ ≠ (.slice Ao21 t112.length co21 : Value).ownBlock ∧ k_ ≠ gb111) (.slice (some ad110) y107.length co12) y107) := ⟨(by rw [hw]; exact (nz (Kd.cN_ (Kd.N_far (p := ⟨gb111, 3, none⟩) (Kd.cN_ HO_27.out (fun k_ hk => (⟨hk, hk.1.2⟩ : _ ∧ k_ ≠ gb111))) (fun _ hk => hk.2) (.slice Ao21 t112.length co21)) (fun _ hk => ⟨hk.1.1.1.1, ⟨hk.1.1.1.2, ⟨hk.1.2, hk.1.1.2⟩⟩⟩))))⟩; replace HL110_3 : Aside0 (Kd.V k59 59 w23 w.heap.size (fun k_ => ((P0_ k_ ∨ P3_ k_) ∨ w.heap.size ≤ k_) ∧ some k_ ≠ (u10 : Value).ownBlock ∧ some k_ ≠ (.slice (some ad110) y107.length co12 : Value).ownBlock ∧ some k_ ≠ (.slice Ao21 t112.length co21 : Value).ownBlock ∧ k_ ≠ gb111) (.slice A110_3 ((ar_ y107 x29_1).f3).length c110_3) ((ar_ y107 x29_1).f3)) := ⟨(by rw [hw]; exact (vz (Kd.cG_ (Kd.V_far (p := ⟨gb111, 3, none⟩) (Kd.cG_ HL110_3.out (fun k_ hk => (⟨hk, hk.1.2⟩ : _ ∧ k_ ≠ gb111))) (fun _ hk => hk.2) (.slice Ao21 t112.length co21)) (fun _ hk => ⟨hk.1.1.1.1.1, ⟨hk.1.1.1.1.2, ⟨hk.1.1.1.2, ⟨hk.1.2, hk.1.1.2⟩⟩⟩⟩))))⟩; replace HO114 : Aside0 (Kd.R k59 59 w23 w.heap.size (fun k_ => (w.heap.size ≤ k_)) (.slice Ao21 t112.length co21) t112) := ⟨(by rw [hw]; exact (rz (Kd.aT_ (Kd.R_far (p := ⟨gb111, 3, none⟩) (Kd.cs_ HO114.out BK111.out (by decide)) (fun _ hk => hk.2) (.slice Ao21 t112.length co21)) (fun _ hk => hk.1.1))))⟩; replace BK111 : Aside0 (w23.heap[gb111]? = some (.cells #[.int .i64 ((ar_ y107 x29_1).f0), .int .i64 ((ar_ y107 x29_1).f1), .string ((ar_ y107 x29_1).f2), .slice Ao21 t112.length co21] 48 (0, 0))) := ⟨(by rw [hw]; exact (by exact kj4_3 (kz BK111.out)))⟩; replace HB : Aside0 (Below w.heap.size w w23) := ⟨(by rw [hw]; exact (bq))⟩; clear hw; obtain ⟨hcz24_0, hcz24_1, hcz24_2, hcz24_3⟩ := cz4_ BK111.out; obtain ⟨hfz24_0, hfz24_1, hfz24_2, hfz24_3⟩ := fz4_ BK111.out) | ((with_reducible refine bs_ (b := .append) (xs := #[.tmp 37, .tmp 39]) rfl ?_); at_builtin; refine Kd.S_append k48 (w0 := w) w.heap.size rfl (.tmp 37) (.tmp 39) 24 48 (.agg #[(.int .i64 0), (.int .i64 0), (.string ⟨#[]⟩), (.slice none 0 0)]) 56 rfl Tryd.underlying24 info48 rfl (by decide) (by omega) u10 x10_1 (⟨(ar_ y107 x29_1).f0, (ar_ y107 x29_1).f1, (ar_ y107 x29_1).f2, t112⟩ : S48) [.int .i64 ((ar_ y107 x29_1).f0), .int .i64 ((ar_ y107 x29_1).f1), .string ((ar_ y107 x29_1).f2), .slice Ao21 t112.length co21] (fun k_ => (w.heap.size ≤ k_) ∧ some k_ ≠ (.slice (some ad110) y107.length co12 : Value).ownBlock ∧ k_ ≠ gb111) (fun k_ => some k_ = (.slice Ao21 t112.length co21 : Value).ownBlock) rfl rfl ?aP (fun k_ hk_ => ((Kd.aT_ (ok' := fun k_ => ((fun k_ => (w.heap.size ≤ k_) ∧ some k_ ≠ (.slice (some ad110) y107.length co12 : Value).ownBlock ∧ k_ ≠ gb111)) k_ ∧ some k_ ≠ (u10 : Value).ownBlock) (Kd.cs_ (Kd.R_apart' (Kd.R_apart' (HO114.out) (Kd.N_typed HO_27.out) (by decide)) (Kd.S_typed HO_10.out) (by decide)) BK111.out (by decide)) (fun k_ hk => ⟨⟨hk.1.1.1, ⟨hk.1.1.2, hk.2⟩⟩, hk.1.2⟩))).1 k_ hk_.symm) ?aF ?aO ?aB ?aS ?aL ?_; (case aP => exact k48_mkM _ _ _ (⟨(ar_ y107 x29_1).f0, (ar_ y107 x29_1).f1, (ar_ y107 x29_1).f2, t112⟩ : S48) (Kd.aT_ (Kd.dy_ rfl (Kd.aT_ (ok' := fun k_ => ((fun k_ => (w.heap.size ≤ k_) ∧ some k_ ≠ (.slice (some ad110) y107.length co12 : Value).ownBlock ∧ k_ ≠ gb111)) k_ ∧ some k_ ≠ (u10 : Value).ownBlock) (Kd.cs_ (Kd.R_apart' (Kd.R_apart' (HO114.out) (Kd.N_typed HO_27.out) (by decide)) (Kd.S_typed HO_10.out) (by decide)) BK111.out (by decide)) (fun k_ hk => ⟨⟨hk.1.1.1, ⟨hk.1.1.2, hk.2⟩⟩, hk.1.2⟩))) (fun _ h_ => h_))); (case aB => exact (bq)); (case aF => exact (fun k_ hk => ⟨(Nat.le_trans (ag_ (bq)) hk), Kd.fresh' (Kd.N_lt (nz HO_27.out)) k_ hk, Kd.dD_ (g := gb111) (o := .cells #[.int .i64 ((ar_ y107 x29_1).f0), .int .i64 ((ar_ y107 x29_1).f1), .string ((ar_ y107 x29_1).f2), .slice Ao21 t112.length co21] 48 (0, 0)) (kz BK111.out) k_ hk⟩)); (case aO => exact (sz (Kd.bE_ HO_10.out (fun k_ hk => ⟨⟨hk.1, ⟨hk.2.1, hk.2.2.2⟩⟩, fun e_ => hk.2.2.1 e_⟩)))); (case aS => exact (ag_ (bq))); (case aL => have := LMc17.out; omega); intro v116 w25 ho hb hg hat; rw [← Ny115.out] at ho; replace HO_27 := Aside0.mk (Kd.N_afterv (ok := (fun k_ => ((P0_ k_ ∨ P3_ k_) ∨ w.heap.size ≤ k_) ∧ some k_ ≠ (.slice Ao21 t112.length co21 : Value).ownBlock ∧ k_ ≠ gb111)) (nz (Kd.cN_ HO_27.out (fun _ hk => ⟨⟨hk.1, ⟨hk.2.2.1, hk.2.2.2⟩⟩, hk.2.1⟩))) hg hat); replace HL110_3 := Aside0.mk (Kd.V_afterv (ok := (fun k_ => ((P0_ k_ ∨ P3_ k_) ∨ w.heap.size ≤ k_) ∧ some k_ ≠ (.slice (some ad110) y107.length co12 : Value).ownBlock ∧ some k_ ≠ (.slice Ao21 t112.length co21 : Value).ownBlock ∧ k_ ≠ gb111)) (vz (Kd.cG_ HL110_3.out (fun _ hk => ⟨⟨hk.1, ⟨hk.2.2.1, ⟨hk.2.2.2.1, hk.2.2.2.2⟩⟩⟩, hk.2.1⟩))) hg hat); replace BK111 := Aside0.mk (ce_ (g := gb111) (o := .cells #[.int .i64 ((ar_ y107 x29_1).f0), .int .i64 ((ar_ y107 x29_1).f1), .string ((ar_ y107 x29_1).f2), .slice Ao21 t112.length co21] 48 (0, 0)) (kz BK111.out) hg (Kd.S_away HO_10.out (fun _ hk => hk.2.2.2))); replace HB := Aside0.mk (hb); have HO117 := Aside0.mk (ho); clear HO_10; clear HO114; clear ho hb hg hat))
    go_roundg k1
    case measure => have := HK1.out; omega
    case rel => exact ⟨(y115), (wrap64 (x29_1 + 1)), (by first | rfl | (simp; done) | (simp [*]; done)), H', ⟨by have := HK1.out; omega⟩, ⟨sz (Kd.bE_ HO117.out (fun _ hk => ⟨hk.1, hk.2.1⟩))⟩, ⟨nz (Kd.cN_ HO_27.out (fun _ hk => ⟨hk.1.1, hk.2⟩))⟩, ⟨bq⟩⟩
 rw [if_pos c5] at H
 have c5b0 : ((l0.length : Int) == 16) = true := beq_iff_eq.mpr c5
 have c5b1 : ((l0.length : Int) != 16) = false := bne_eq_false_iff_eq.mpr c5
 clear c5
 simp only [Option.some.injEq, Prod.mk.injEq] at H
 obtain ⟨rfl, rfl⟩ := H
 go_enter Tryd.func37, Tryd.ntmps37
 go_wp2
 go_ret2
 exact ⟨_, by first | rfl | (simp [*, ap_, ao_] <;> rfl), by first | exact Kd.S_nil _ _ _ _ _ | exact Kd.N_nil _ _ _ _ _ | exact Kd.V_nil _ _ _ _ _ | exact Kd.Q_nil _ _ _ _ _ | exact Kd.R_nil _ _ _ _ _, bz HB.out⟩
def aV_.j0 : Nat → List (S48) → Int → ByteArray → List (S59) → Bool → Option ((List (S48)) × Int)
 | 0, _, _, _, _, _ => none
 | k + 1, x0, x1, x2, x3, x10 => if x10 = true then (some (([] : List (S48)), 1)) else ((aF_.f x1 0 (x0.length : Int)).bind fun t104 => (if t104 = true then ((aZ_.f k x0 x1 x2 x3).bind fun bt105 => (some (bt105.1, bt105.2))) else (some (([] : List (S48)), 3))))
def aV_.f (k : Nat) (l0 : List (S48)) (a1 : Int) (a2 : ByteArray) (l3 : List (S59)) : Option ((List (S48)) × Int) := (aD_.f k l0).bind fun t101 => (if t101 = true then ((aQ_.f k a2).bind fun t102 => (if t102 = true then ((an_.f k l3).bind fun t103 => (aV_.j0 k l0 a1 a2 l3 (!t103))) else (aV_.j0 k l0 a1 a2 l3 true))) else (aV_.j0 k l0 a1 a2 l3 true))
set_option maxHeartbeats 8000000 in
set_option maxRecDepth 100000 in
theorem aV_.calls (k : Nat) (A0 : Option Addr) (c0 : Nat) (l0 : List (S48)) (a1 : Int) (a2 : ByteArray) (A3 : Option Addr) (c3 : Nat) (l3 : List (S59)) (r1 : List (S48)) (r2 : Int) (w : World) (hr0 : Kd.C k48 w A0 l0.length l0) (hc0 : l0.length ≤ c0) (hr3 : Kd.C k59 w A3 l3.length l3) (hc3 : l3.length ≤ c3) (h : aV_.f k l0 a1 a2 l3 = some (r1, r2)) :
  Calls Tryd.prog 12 #[.slice A0 l0.length c0, .int .i64 a1, .string a2, .slice A3 l3.length c3] w fun e w' => ∃ v0_ : Value, e = .returned (.tuple #[v0_, .int .i64 r2]) ∧ Kd.S k48 48 w' w.heap.size (fun _ => True) v0_ r1 ∧ Below w.heap.size w w' := by
 have HR0 := Aside0.mk hr0
 have HC0 := Aside0.mk hc0
 clear hr0 hc0
 have HR3 := Aside0.mk hr3
 have HC3 := Aside0.mk hc3
 clear hr3 hc3
 have HB := Aside0.mk (Below.refl w.heap.size w)
 have H : ((aD_.f k l0).bind fun t101 => (if t101 = true then ((aQ_.f k a2).bind fun t102 => (if t102 = true then ((an_.f k l3).bind fun t103 => (aV_.j0 k l0 a1 a2 l3 (!t103))) else (aV_.j0 k l0 a1 a2 l3 true))) else (aV_.j0 k l0 a1 a2 l3 true))) = some (r1, r2) := h
 clear h
 have HC5 := Aside0.mk H
 clear H
 go_enter Tryd.func12, Tryd.ntmps12
 go_upto_region 1 with (fail)
 go_cut [10] (fun v10 wc => ∃ (kq : Nat) (x10_4 : Bool), v10 = .bool x10_4 ∧ Aside0 (aV_.j0 kq l0 a1 a2 l3 x10_4 = some (r1, r2)) ∧ Aside0 (kq ≤ k) ∧ Aside0 (Below w.heap.size w wc))
 case first =>
  have H := HC5.out
  clear HC5
  replace H := Option.bind_eq_some_iff.mp H
  obtain ⟨t101, A60, H⟩ := H
  (try dsimp only at H)
  have A6 := Aside0.mk A60
  clear A60
  by_cases c7 : t101 = true
  rotate_left
  ·replace c7 := Bool.eq_false_iff.mpr c7
   subst c7
   have H1 : (aV_.j0 k l0 a1 a2 l3 true) = some (r1, r2) := by rw [if_neg (show ¬ (false = true) by decide)] at H; exact H
   clear H
   have H := H1
   clear H1
   have H' := Aside0.mk H
   clear H
   go_wp2_with (first | ((with_reducible refine as_ (f := 35) rfl ?_); refine bw_ (some 12) rfl rfl Tryd.func35 (by kernel_rfl) rfl #[.slice A0 l0.length c0] rfl (by first | rfl | (simp only [lma_, lmc_, lmn_]; first | done | rfl)) ?_; (with_reducible refine (aD_.calls k _ _ l0 false _ ?side1 ?side2 A6.out).mono ?_); (case side1 => exact cz (Kd.bk_ HR0.out HB.out)); (case side2 => exact HC0.out); rintro e w14 ⟨rfl, hb⟩; refine ⟨_, rfl, ?_⟩; replace HB := Aside0.mk (ab_ (bz HB.out) hb); (try clear hb)))
   go_meet
   case rel => exact ⟨_, (true), (by first | rfl | (simp; done) | (simp [*]; done)), H', ⟨by first | omega | exact Nat.le_refl _⟩, ⟨bz HB.out⟩⟩
  subst c7
  have H1 : ((aQ_.f k a2).bind fun t102 => (if t102 = true then ((an_.f k l3).bind fun t103 => (aV_.j0 k l0 a1 a2 l3 (!t103))) else (aV_.j0 k l0 a1 a2 l3 true))) = some (r1, r2) := by rw [if_pos rfl] at H; exact H
  clear H
  have H := H1
  clear H1
  replace H := Option.bind_eq_some_iff.mp H
  obtain ⟨t102, A80, H⟩ := H
  (try dsimp only at H)
  have A8 := Aside0.mk A80
  clear A80
  by_cases c9 : t102 = true
  rotate_left
  ·replace c9 := Bool.eq_false_iff.mpr c9
   subst c9
   have H1 : (aV_.j0 k l0 a1 a2 l3 true) = some (r1, r2) := by rw [if_neg (show ¬ (false = true) by decide)] at H; exact H
   clear H
   have H := H1
   clear H1
   have H' := Aside0.mk H
   clear H
   go_wp2_with (first | ((with_reducible refine as_ (f := 35) rfl ?_); refine bw_ (some 12) rfl rfl Tryd.func35 (by kernel_rfl) rfl #[.slice A0 l0.length c0] rfl (by first | rfl | (simp only [lma_, lmc_, lmn_]; first | done | rfl)) ?_; (with_reducible refine (aD_.calls k _ _ l0 true _ ?side1 ?side2 A6.out).mono ?_); (case side1 => exact cz (Kd.bk_ HR0.out HB.out)); (case side2 => exact HC0.out); rintro e w13 ⟨rfl, hb⟩; refine ⟨_, rfl, ?_⟩; replace HB := Aside0.mk (ab_ (bz HB.out) hb); (try clear hb)) | (go_at_call 36; (with_reducible refine (aQ_.calls k a2 false _ A8.out).mono ?_); rintro e w' ⟨rfl, ⟨nd, rfl⟩⟩))
   go_meet
   case rel => exact ⟨_, (true), (by first | rfl | (simp; done) | (simp [*]; done)), H', ⟨by first | omega | exact Nat.le_refl _⟩, ⟨bz HB.out⟩⟩
  subst c9
  have H1 : ((an_.f k l3).bind fun t103 => (aV_.j0 k l0 a1 a2 l3 (!t103))) = some (r1, r2) := by rw [if_pos rfl] at H; exact H
  clear H
  have H := H1
  clear H1
  replace H := Option.bind_eq_some_iff.mp H
  obtain ⟨t103, A100, H⟩ := H
  (try dsimp only at H)
  have A10 := Aside0.mk A100
  clear A100
  have H' := Aside0.mk H
  clear H
  go_wp2_with (first | ((with_reducible refine as_ (f := 35) rfl ?_); refine bw_ (some 12) rfl rfl Tryd.func35 (by kernel_rfl) rfl #[.slice A0 l0.length c0] rfl (by first | rfl | (simp only [lma_, lmc_, lmn_]; first | done | rfl)) ?_; (with_reducible refine (aD_.calls k _ _ l0 true _ ?side1 ?side2 A6.out).mono ?_); (case side1 => exact cz (Kd.bk_ HR0.out HB.out)); (case side2 => exact HC0.out); rintro e w11 ⟨rfl, hb⟩; refine ⟨_, rfl, ?_⟩; replace HB := Aside0.mk (ab_ (bz HB.out) hb); (try clear hb)) | (go_at_call 36; (with_reducible refine (aQ_.calls k a2 true _ A8.out).mono ?_); rintro e w' ⟨rfl, ⟨nd, rfl⟩⟩) | (go_at_call 24; (with_reducible refine (an_.calls k _ _ l3 t103 _ ?side1 ?side2 A10.out).mono ?_); (case side1 => exact cz (Kd.bk_ HR3.out HB.out)); (case side2 => exact HC3.out); rintro e w12 ⟨rfl, hb⟩; replace HB := Aside0.mk (ab_ (bz HB.out) hb); (try clear hb)))
  go_meet
  case rel => exact ⟨_, (!t103), (by first | rfl | (simp; done) | (simp [*]; done)), H', ⟨by first | omega | exact Nat.le_refl _⟩, ⟨bz HB.out⟩⟩
 case rest =>
  clear HC5
  obtain ⟨kq, x10_4, rfl, HA, HJ4, HB⟩ := hcut
  cases kq with
  | zero => exact absurd HA.out (by simp [aV_.j0])
  | succ kj4 =>
   have H := HA.out
   clear HA
   simp only [aV_.j0] at H
   by_cases c15 : x10_4 = true
   rotate_left
   ·replace c15 := Bool.eq_false_iff.mpr c15
    subst c15
    have H1 : ((aF_.f a1 0 (l0.length : Int)).bind fun t104 => (if t104 = true then ((aZ_.f kj4 l0 a1 a2 l3).bind fun bt105 => (some (bt105.1, bt105.2))) else (some (([] : List (S48)), 3)))) = some (r1, r2) := by rw [if_neg (show ¬ (false = true) by decide)] at H; exact H
    clear H
    have H := H1
    clear H1
    replace H := Option.bind_eq_some_iff.mp H
    obtain ⟨t104, A160, H⟩ := H
    (try dsimp only at H)
    have A16 := Aside0.mk A160
    clear A160
    have HC17 := Aside0.mk H
    clear H
    go_upto_if 24 with (first | ((with_reducible refine as_ (f := 29) rfl ?_); refine bw_ (some 28) rfl rfl Tryd.func29 (by kernel_rfl) rfl #[.int .i64 a1, .int .i64 0, .int .i64 (l0.length : Int)] rfl (by first | rfl | (simp only [lma_, lmc_, lmn_]; first | done | rfl)) ?_; (with_reducible refine (aF_.calls a1 0 (l0.length : Int) t104 _ A16.out).mono ?_); rintro e w' ⟨rfl, ⟨nd, rfl⟩⟩; refine ⟨_, rfl, ?_⟩; (try (rw [dt_ wc]; generalize hq_ : World.drewN wc _ = wc; replace HB := Aside0.mk (rqH hq_ HB.out); clear hq_))))
    (try simp only [Act.put, lsa_, ls0_, ls1_])
    have H := HC17.out
    clear HC17
    by_cases c18 : t104 = true
    rotate_left
    ·replace c18 := Bool.eq_false_iff.mpr c18
     subst c18
     have H1 : (some (([] : List (S48)), 3)) = some (r1, r2) := by rw [if_neg (show ¬ (false = true) by decide)] at H; exact H
     clear H
     have H := H1
     clear H1
     simp only [Option.some.injEq, Prod.mk.injEq] at H
     obtain ⟨rfl, rfl⟩ := H
     go_wp2
     go_ret2
     exact ⟨_, by first | rfl | (simp [*, ap_, ao_] <;> rfl), by first | exact Kd.S_nil _ _ _ _ _ | exact Kd.N_nil _ _ _ _ _ | exact Kd.V_nil _ _ _ _ _ | exact Kd.Q_nil _ _ _ _ _ | exact Kd.R_nil _ _ _ _ _, bz HB.out⟩
    subst c18
    have H1 : ((aZ_.f kj4 l0 a1 a2 l3).bind fun bt105 => (some (bt105.1, bt105.2))) = some (r1, r2) := by rw [if_pos rfl] at H; exact H
    clear H
    have H := H1
    clear H1
    replace H := Option.bind_eq_some_iff.mp H
    obtain ⟨⟨t105, t108⟩, A190, H⟩ := H
    (try dsimp only at H)
    have A19 := Aside0.mk A190
    clear A190
    simp only [Option.some.injEq, Prod.mk.injEq] at H
    obtain ⟨rfl, rfl⟩ := H
    go_wp2_with (first | ((with_reducible refine as_ (f := 37) rfl ?_); refine bw_ (some 34) rfl rfl Tryd.func37 (by kernel_rfl) rfl #[.slice A0 l0.length c0, .int .i64 a1, .string a2, .slice A3 l3.length c3] rfl (by first | rfl | (simp only [lma_, lmc_, lmn_]; first | done | rfl)) ?_; (with_reducible refine (aZ_.calls kj4 (fun k_ => k_ < w.heap.size) _ _ l0 a1 a2 (fun k_ => k_ < w.heap.size) _ _ l3 t105 t108 _ ?side1 ?side2 A19.out).mono ?_); (case side1 => exact Kd.V_mk HC0.out (Kd.F_below (Kd.C_F k48_heap HR0.out) (bz HB.out))); (case side2 => exact Kd.V_mk HC3.out (Kd.F_below (Kd.C_F k59_heap HR3.out) (bz HB.out))); rintro e w20 ⟨v106, rfl, ho0, hb⟩; refine ⟨_, rfl, ?_⟩; have HO107 := Aside0.mk (Kd.du_ (Kd.bE_ (ok' := fun k_ => True) ho0 (fun _ hk_ => trivial)) (ag_ (bz HB.out))); replace HB := Aside0.mk (ab_ (bz HB.out) hb); (try clear hb); (try clear ho0)))
    go_ret2
    exact ⟨_, by first | rfl | (simp [*, ap_, ao_] <;> rfl), sz HO107.out, bz HB.out⟩
   subst c15
   have H1 : (some (([] : List (S48)), 1)) = some (r1, r2) := by rw [if_pos rfl] at H; exact H
   clear H
   have H := H1
   clear H1
   simp only [Option.some.injEq, Prod.mk.injEq] at H
   obtain ⟨rfl, rfl⟩ := H
   go_wp2
   go_ret2
   exact ⟨_, by first | rfl | (simp [*, ap_, ao_] <;> rfl), by first | exact Kd.S_nil _ _ _ _ _ | exact Kd.N_nil _ _ _ _ _ | exact Kd.V_nil _ _ _ _ _ | exact Kd.Q_nil _ _ _ _ _ | exact Kd.R_nil _ _ _ _ _, bz HB.out⟩
def aE_.l0 : Nat → List (S48) → List Int → Int → Int → Option (Int)
 | 0, _, _, _, _ => none
 | k + 1, x0, x10, x11, x12 => if x12 < x11 then (if 0 ≤ x12 then (if x12 < (x10.length : Int) then ((aF_.f (rd x10 x12) 1 (x0.length : Int)).bind fun t103 => (if t103 = true then (aE_.l0 k x0 x10 x11 (wrap64 (x12 + 1))) else (some 3))) else (none)) else (none)) else (some 0)
def aE_.f (k : Nat) (l0 : List (S48)) (l1 : List Int) : Option (Int) := (aD_.f k l0).bind fun t101 => (if t101 = true then (aE_.l0 k l0 l1 (l1.length : Int) 0) else (some 1))
set_option maxHeartbeats 8000000 in
set_option maxRecDepth 100000 in
theorem aE_.calls (k : Nat) (A0 : Option Addr) (c0 : Nat) (l0 : List (S48)) (A1 : Option Addr) (c1 : Nat) (l1 : List Int) (r : Int) (w : World) (hr0 : Kd.C k48 w A0 l0.length l0) (hc0 : l0.length ≤ c0) (hr1 : Kd.C (Kd.int .i64) w A1 l1.length l1) (hc1 : l1.length ≤ c1) (h : aE_.f k l0 l1 = some r) :
  Calls Tryd.prog 38 #[.slice A0 l0.length c0, .slice A1 l1.length c1] w fun e w' => e = .returned (.int .i64 r) ∧ Below w.heap.size w w' := by
 have HR0 := Aside0.mk hr0
 have HC0 := Aside0.mk hc0
 clear hr0 hc0
 have HR1 := Aside0.mk hr1
 have HC1 := Aside0.mk hc1
 clear hr1 hc1
 have HB := Aside0.mk (Below.refl w.heap.size w)
 have H : ((aD_.f k l0).bind fun t101 => (if t101 = true then (aE_.l0 k l0 l1 (l1.length : Int) 0) else (some 1))) = some r := h
 clear h
 replace H := Option.bind_eq_some_iff.mp H
 obtain ⟨t101, A30, H⟩ := H
 (try dsimp only at H)
 have A3 := Aside0.mk A30
 clear A30
 have HC4 := Aside0.mk H
 clear H
 go_enter Tryd.func38, Tryd.ntmps38
 go_upto_if 9 with (first | ((with_reducible refine as_ (f := 35) rfl ?_); refine bw_ (some 8) rfl rfl Tryd.func35 (by kernel_rfl) rfl #[.slice A0 l0.length c0] rfl (by first | rfl | (simp only [lma_, lmc_, lmn_]; first | done | rfl)) ?_; (with_reducible refine (aD_.calls k _ _ l0 t101 _ ?side1 ?side2 A3.out).mono ?_); (case side1 => exact cz HR0.out); (case side2 => exact HC0.out); rintro e w5 ⟨rfl, hb⟩; refine ⟨_, rfl, ?_⟩; replace HB := Aside0.mk (ab_ (bz HB.out) hb); (try clear hb)))
 (try simp only [Act.put, lsa_, ls0_, ls1_])
 have H := HC4.out
 clear HC4
 by_cases c6 : t101 = true
 rotate_left
 ·replace c6 := Bool.eq_false_iff.mpr c6
  subst c6
  have H1 : (some 1) = some r := by rw [if_neg (show ¬ (false = true) by decide)] at H; exact H
  clear H
  have H := H1
  clear H1
  obtain rfl := Option.some.inj H
  go_wp2
  go_ret
  exact ⟨by first | rfl | (simp [*, ap_, ao_] <;> rfl), bz HB.out⟩
 subst c6
 have H1 : (aE_.l0 k l0 l1 (l1.length : Int) 0) = some r := by rw [if_pos rfl] at H; exact H
 clear H
 have H := H1
 clear H1
 have H' := Aside0.mk H
 clear H
 go_wp2
 (try simp only [Act.put, lsa_, ls0_, ls1_])
 go_loopg [12] k (fun kq v12 w' => ∃ (x12_1 : Int), v12 = .int .i64 x12_1 ∧ Aside0 (aE_.l0 kq l0 l1 (l1.length : Int) x12_1 = some r) ∧ Aside0 (kq ≤ k) ∧ Aside0 (Below w.heap.size w w'))
 case atStart => exact ⟨(0), (by first | rfl | (simp; done) | (simp [*]; done)), H', ⟨Nat.le_refl _⟩, ⟨bz HB.out⟩⟩
 case round =>
  clear H'
  obtain ⟨x12_1, rfl, HA, HK1, HB⟩ := hrel
  cases gk with
  | zero => exact absurd HA.out (by simp [aE_.l0])
  | succ k1 =>
   have H := HA.out
   clear HA
   simp only [aE_.l0] at H
   by_cases c7 : x12_1 < (l1.length : Int)
   rotate_left
   ·rw [if_neg c7] at H
    have c7b0 : decide (x12_1 < (l1.length : Int)) = false := decide_eq_false c7
    clear c7
    (first | rw [c7b0] | (simp only [i64_w, i32_w]; rw [c7b0]) | (simp only [c7b1, Bool.not_true, Bool.not_false]) | (simp only [c7b0, Bool.not_true, Bool.not_false]) | skip)
    obtain rfl := Option.some.inj H
    go_wp2
    go_ret
    exact ⟨by first | rfl | (simp [*, ap_, ao_] <;> rfl), bz HB.out⟩
   rw [if_pos c7] at H
   have c7b0 : decide (x12_1 < (l1.length : Int)) = true := decide_eq_true c7
   clear c7
   (first | rw [c7b0] | (simp only [i64_w, i32_w]; rw [c7b0]) | (simp only [c7b1, Bool.not_true, Bool.not_false]) | (simp only [c7b0, Bool.not_true, Bool.not_false]) | skip)
   by_cases c8 : 0 ≤ x12_1
   rotate_left
   ·rw [if_neg c8] at H
    exact absurd H (by simp)
   rw [if_pos c8] at H
   have c8b0 : decide (0 ≤ x12_1) = true := decide_eq_true c8
   clear c8
   by_cases c9 : x12_1 < (l1.length : Int)
   rotate_left
   ·rw [if_neg c9] at H
    exact absurd H (by simp)
   rw [if_pos c9] at H
   have c9b0 : decide (x12_1 < (l1.length : Int)) = true := decide_eq_true c9
   clear c9
   replace H := Option.bind_eq_some_iff.mp H
   obtain ⟨t103, A100, H⟩ := H
   (try dsimp only at H)
   have A10 := Aside0.mk A100
   clear A100
   have HC11 := Aside0.mk H
   clear H
   have p102 : 0 ≤ (x12_1 : Int) := of_decide_eq_true (by assumption)
   have q102 : x12_1 < (l1.length : Int) := of_decide_eq_true (by assumption)
   obtain ⟨ad102, e102, hx102_0⟩ := Kd.cu_ HR1.out x12_1 p102 q102
   cases e102
   replace hx102_0 := bu_ HB.out hx102_0
   replace p102 := eq_true p102
   replace q102 := eq_true q102
   go_upto_if 20 with (first | ((with_reducible refine as_ (f := 29) rfl ?_); refine bw_ (some 19) rfl rfl Tryd.func29 (by kernel_rfl) rfl #[.int .i64 (rd l1 x12_1), .int .i64 1, .int .i64 (l0.length : Int)] rfl (by first | rfl | (simp only [lma_, lmc_, lmn_]; first | done | rfl)) ?_; (with_reducible refine (aF_.calls (rd l1 x12_1) 1 (l0.length : Int) t103 _ A10.out).mono ?_); rintro e w' ⟨rfl, ⟨nd, rfl⟩⟩; refine ⟨_, rfl, ?_⟩; (try (rw [dt_ wr]; generalize hq_ : World.drewN wr _ = wr; replace HB := Aside0.mk (rqH hq_ HB.out); clear hq_))))
   (try simp only [Act.put, lsa_, ls0_, ls1_])
   have H := HC11.out
   clear HC11
   by_cases c12 : t103 = true
   rotate_left
   ·replace c12 := Bool.eq_false_iff.mpr c12
    subst c12
    have H1 : (some 3) = some r := by rw [if_neg (show ¬ (false = true) by decide)] at H; exact H
    clear H
    have H := H1
    clear H1
    obtain rfl := Option.some.inj H
    go_wp2
    go_ret
    exact ⟨by first | rfl | (simp [*, ap_, ao_] <;> rfl), bz HB.out⟩
   subst c12
   have H1 : (aE_.l0 k1 l0 l1 (l1.length : Int) (wrap64 (x12_1 + 1))) = some r := by rw [if_pos rfl] at H; exact H
   clear H
   have H := H1
   clear H1
   have H' := Aside0.mk H
   clear H
   go_wp2
   go_roundg k1
   case measure => have := HK1.out; omega
   case rel => exact ⟨(wrap64 (x12_1 + 1)), (by first | rfl | (simp; done) | (simp [*]; done)), H', ⟨by have := HK1.out; omega⟩, ⟨bz HB.out⟩⟩
end Go.Proofs.YtiheginanghhjaaDoor.Q
namespace Go.Proofs.YtiheginanghhjaaDoor.Q
open Go Go.RowKit
def Tab_ (w : World) : Prop := (Lib.TabIs Tryd.prog w "internal/strconv.uint64pow10" .u64 Lib.pow10Tab) ∧ True
theorem cM_ {w w' : World} (h : Tab_ w) (hb : Below w.heap.size w w') : Tab_ w' := by
 obtain ⟨h1, h2⟩ := h
 refine ⟨?_, ?_⟩
 ·have h3 := h1
  unfold Lib.TabIs World.var? at h3
  obtain ⟨g, hg, h4⟩ := Option.bind_eq_some_iff.1 h3
  refine var?_below hb hg ?_ h1
  split at h4
  ·rename_i hh
   exact (Array.getElem?_eq_some_iff.1 hh).1
  ·cases h4
 ·trivial
end Go.Proofs.YtiheginanghhjaaDoor.Q
namespace Go.Proofs.YtiheginanghhjaaDoor.Q
open Go.RowKit Go.Proofs.YtiheginanghhjaaDoorW.PrintWords Go.Proofs.YtiheginanghhjaaDoorW.PrintLast Go.Proofs.YtiheginanghhjaaDoorW.PrintMore
attribute [local go_sem] aJ_ aI_ aW_ aX_ az_ aA_ aG_ aH_
def cf_.f (a0 : Int) (a1 : Int) : Option (ByteArray) := if a1 = 10 ∧ -9223372036854775808 ≤ a0 ∧ a0 ≤ 9223372036854775807 then some (⟨(Go.Lib.itoa a0).toArray⟩ : ByteArray) else none
theorem cf_.calls (a0 : Int) (a1 : Int) (r : ByteArray) (w : World) (hTab_ : Tab_ w) (h : cf_.f a0 a1 = some r) :
  Calls Tryd.prog 61 #[.int .i64 a0, .int .i64 a1] w fun e w' => e = .returned (.string r) ∧ Below w.heap.size w w' := by
 unfold cf_.f at h
 split at h
 case isFalse => cases h
 rename_i hc
 obtain ⟨rfl, h0, h1⟩ := hc
 obtain rfl := Option.some.inj h
 refine (Go.Proofs.Tryd.strconv_FormatInt_10 a0 h0 h1 w hTab_.1).mono ?_
 rintro e w' ⟨rfl, k, os, rfl⟩
 exact ⟨rfl, Go.Lib.below_grow _ _ (Nat.le_refl _) _ _⟩
def bO_.f (a0 : Int) : Option (ByteArray) := (cf_.f a0 10).bind fun t101 => (some t101)
set_option maxHeartbeats 8000000 in
set_option maxRecDepth 100000 in
theorem bO_.calls (a0 : Int) (r : ByteArray) (w : World) (hTab_ : Tab_ w) (h : bO_.f a0 = some r) :
  Calls Tryd.prog 39 #[.int .i64 a0] w fun e w' => e = .returned (.string r) ∧ Below w.heap.size w w' := by
 have HTab_ := Aside0.mk hTab_
 clear hTab_
 have HB := Aside0.mk (Below.refl w.heap.size w)
 have H : ((cf_.f a0 10).bind fun t101 => (some t101)) = some r := h
 clear h
 replace H := Option.bind_eq_some_iff.mp H
 obtain ⟨t101, A20, H⟩ := H
 (try dsimp only at H)
 have A2 := Aside0.mk A20
 clear A20
 obtain rfl := Option.some.inj H
 go_enter Tryd.func39, Tryd.ntmps39
 go_wp2_with (first | ((with_reducible refine as_ (f := 61) rfl ?_); refine bw_ (some 4) rfl rfl Tryd.func61 (by kernel_rfl) rfl #[.int .i64 a0, .int .i64 10] rfl (by first | rfl | (simp only [lma_, lmc_, lmn_]; first | done | rfl)) ?_; (with_reducible refine (cf_.calls a0 10 t101 _ ?side1 A2.out).mono ?_); (case side1 => exact cM_ HTab_.out (bz HB.out)); rintro e w3 ⟨rfl, hb⟩; refine ⟨_, rfl, ?_⟩; replace HB := Aside0.mk (ab_ (bz HB.out) hb); (try clear hb)))
 go_ret
 exact ⟨by first | rfl | (simp [*, ap_, ao_] <;> rfl), bz HB.out⟩
def cK_.f (l0 : List (S48)) (a1 : Int) : Option ((List (S59))) := if a1 = 0 then (some ([] : List (S59))) else (if 0 ≤ (wrap64 (a1 - 1)) then (if (wrap64 (a1 - 1)) < (l0.length : Int) then (some ((ar_ l0 (wrap64 (a1 - 1))).f3)) else (none)) else (none))
set_option maxHeartbeats 8000000 in
set_option maxRecDepth 100000 in
theorem cK_.calls (P0_ : Nat → Prop) (A0 : Option Addr) (c0 : Nat) (l0 : List (S48)) (a1 : Int) (r : List (S59)) (w : World) (hs0 : Kd.V k48 48 w w.heap.size (fun k_ => P0_ k_) (.slice A0 l0.length c0) l0) (h : cK_.f l0 a1 = some r) :
  Calls Tryd.prog 40 #[.slice A0 l0.length c0, .int .i64 a1] w fun e w' => ∃ v0_ : Value, e = .returned (v0_) ∧ Kd.V k59 59 w' w.heap.size (fun k_ => (P0_ k_ ∨ w.heap.size ≤ k_)) v0_ r ∧ Below w.heap.size w w' := by
 have HO0 := Aside0.mk (show Kd.V k48 48 w w.heap.size (fun k_ => (P0_ k_ ∨ w.heap.size ≤ k_)) (.slice A0 l0.length c0) l0 from Kd.cG_ hs0 (fun k_ hk => .inl hk))
 have HB := Aside0.mk (Below.refl w.heap.size w)
 have H : (if a1 = 0 then (some ([] : List (S59))) else (if 0 ≤ (wrap64 (a1 - 1)) then (if (wrap64 (a1 - 1)) < (l0.length : Int) then (some ((ar_ l0 (wrap64 (a1 - 1))).f3)) else (none)) else (none))) = some r := h
 clear h
 by_cases c3 : a1 = 0
 rotate_left
 ·rw [if_neg c3] at H
  have c3b0 : (a1 == 0) = false := beq_eq_false_iff_ne.mpr c3
  have c3b1 : (a1 != 0) = true := bne_iff_ne.mpr c3
  obtain ⟨ji4, hji4⟩ : ∃ j_ : Int, (wrap64 (a1 - 1)) = j_ := ⟨_, rfl⟩
  replace H : (if 0 ≤ (ji4) then (if (ji4) < (l0.length : Int) then (some ((ar_ l0 (ji4)).f3)) else (none)) else (none)) = some r := by first | (rw [hji4] at H; exact H) | (simp only [hji4] at H ⊢; exact H)
  have hji4w : (IntKind.i64.wrap (a1 - 1)) = ji4 := (i64_w _).trans hji4
  by_cases c5 : 0 ≤ (ji4)
  rotate_left
  ·rw [if_neg c5] at H
   exact absurd H (by simp)
  rw [if_pos c5] at H
  have c5b0 : decide (0 ≤ (ji4)) = true := decide_eq_true c5
  clear c5
  by_cases c6 : (ji4) < (l0.length : Int)
  rotate_left
  ·rw [if_neg c6] at H
   exact absurd H (by simp)
  rw [if_pos c6] at H
  have c6b0 : decide ((ji4) < (l0.length : Int)) = true := decide_eq_true c6
  clear c6
  obtain rfl := Option.some.inj H
  have p101 : 0 ≤ ((ji4) : Int) := of_decide_eq_true (by assumption)
  have q101 : (ji4) < (l0.length : Int) := of_decide_eq_true (by assumption)
  obtain ⟨ad101, A101_3, c101_3, e101, hx101_0, hx101_1, hx101_2, hx101_3, hl101_3, hi101_3⟩ := da_ (Kd.V_reads' HO0.out).2.2 (ji4) p101 q101
  cases e101
  obtain ⟨ce101, hce101, hMe101, hcc101⟩ := Kd.V_get HO0.out z48 (ji4) p101 (by first | exact q101 | exact of_decide_eq_true (by assumption) | (have e_ := (Kd.V_reads' HO0.out).1; omega))
  obtain ⟨ua101_3, uc101_3, rfl, ul101_3, ge101_3⟩ := k48_openF hMe101
  have hv101_3 := hcc101 3 _ rfl
  rw [cd_ _ _ 3 (by omega)] at hv101_3
  replace hv101_3 := Option.some.inj (hv101_3.symm.trans hx101_3)
  injection hv101_3 with hva_ hvn_ hvc_
  rw [hva_] at ge101_3
  rw [hvc_] at ul101_3
  have HL101_3 := Aside0.mk (show Kd.V k59 59 _ w.heap.size _ _ ((ar_ l0 (ji4)).f3) from Kd.V_mk ul101_3 ge101_3)
  clear hva_ hvn_ hvc_ ge101_3 ul101_3
  clear hcc101 hce101
  have HR101_3 := Aside0.mk hi101_3
  have HC101_3 := Aside0.mk hl101_3
  clear hi101_3 hl101_3
  replace p101 := eq_true p101
  replace q101 := eq_true q101
  go_enter Tryd.func40, Tryd.ntmps40
  go_wp2
  go_ret
  exact ⟨_, by first | rfl | (simp [ap_, ao_] <;> rfl) | (simp only [← hji4]; first | rfl | (simp [ap_, ao_] <;> rfl)) | (simp [*, ap_, ao_] <;> rfl), vz HL101_3.out, bz HB.out⟩
 rw [if_pos c3] at H
 have c3b0 : (a1 == 0) = true := beq_iff_eq.mpr c3
 have c3b1 : (a1 != 0) = false := bne_eq_false_iff_eq.mpr c3
 clear c3
 obtain rfl := Option.some.inj H
 go_enter Tryd.func40, Tryd.ntmps40
 go_wp2
 go_ret
 exact ⟨_, by first | rfl | (simp [*, ap_, ao_] <;> rfl), Kd.V_nil _ _ _ _ _, bz HB.out⟩
end Go.Proofs.YtiheginanghhjaaDoor.Q
