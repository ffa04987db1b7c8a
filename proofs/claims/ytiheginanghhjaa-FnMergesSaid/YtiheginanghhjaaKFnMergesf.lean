/- a merge of two branches answers as the statement says This text holds the functions' walks and the words for them. -/
import Derived.Lib.Bytealg
import Derived.DataReads
import Derived.Carry
import Derived.ChangeShapes
import Derived.KernelRfl
import Derived.Lib.SlicesCompact
import Derived.Laws.BitsLemmas
import Derived.Test.YtiheginanghhjaaKFnMergesa
import Derived.Test.YtiheginanghhjaaKFnMergesb
import Derived.Test.YtiheginanghhjaaKFnMergesc
import Derived.Test.YtiheginanghhjaaKFnMergesd
import Derived.Test.YtiheginanghhjaaKFnMergese
set_option linter.unusedVariables false
set_option linter.unusedSimpArgs false
namespace Go.Proofs.Ytiheginanghhjaa.Q
open Go.RowKit Go.Proofs.YtiheginanghhjaaW.PrintWords Go.Proofs.YtiheginanghhjaaW.PrintLast Go.Proofs.YtiheginanghhjaaW.PrintMore
attribute [local go_sem] aP_ aQ_ bh_ bg_ aE_ aD_ aR_ aO_
mutual
def ap_.j0 : Nat → List Int → List (S63) → List (S63) → List (S63) → Bool → Option (Bool)
 | 0, _, _, _, _, _ => none
 | k + 1, x1, x5, x6, x7, x91 => if x91 = true then (some false) else ((av_.f k x5 x6 x7).bind fun bt126 => ((av_.f k x5 x7 x6).bind fun bt130 => ((al_.f k x5 x6 x7).bind fun bt134 => ((al_.f k x5 x7 x6).bind fun bt138 => (if bt126.2 = 0 then (if bt130.2 = 0 then (if (bt126.1.length : Int) = (bt130.1.length : Int) then (if bt134.2 = bt138.2 then (if ((bt134.2 == 6) != (decide ((bt126.1.length : Int) > 0))) = true then (ap_.j1 k x1 true) else (if bt134.2 = 0 then ((bk_.f k bt134.1 bt138.1).bind fun t142 => (if t142 = true then ((cF_.f k bt134.1).bind fun t143 => (ap_.j1 k x1 (!t143))) else (ap_.j1 k x1 true))) else (ap_.j1 k x1 false))) else (ap_.j1 k x1 true)) else (ap_.j1 k x1 true)) else (ap_.j1 k x1 true)) else (ap_.j1 k x1 true))))))
def ap_.j1 : Nat → List Int → Bool → Option (Bool)
 | 0, _, _ => none
 | k + 1, x1, x160 => if x160 = true then (some false) else ((cK_.f k x1).bind fun t144 => (if (t144.length : Int) = 0 then (some true) else ((cq_.f x1 0 (t144.length : Int)).bind fun t147 => ((cq_.f x1 1 (t144.length : Int)).bind fun t148 => ((bf_.f k t144 (wrap64 (1 + t147)) (wrap64 (1 + t148))).bind fun bt149 => ((bf_.f k t144 (wrap64 (1 + t148)) (wrap64 (1 + t147))).bind fun bt151 => ((aI_.f k t144 (wrap64 (1 + t147)) (wrap64 (1 + t148)) (⟨#[98, 111, 116, 104]⟩ : ByteArray)).bind fun bt153 => (if bt149.2 = 0 then (if bt151.2 = 0 then (if bt149.1 = bt151.1 then (if bt149.1 < 0 then (some false) else (if bt149.1 > (mn (wrap64 (1 + t147)) (wrap64 (1 + t148))) then (some false) else (if bt153.2 = 0 then (if (bt153.1.length : Int) = (wrap64 ((t144.length : Int) + 1)) then ((cr_.f k bt153.1).bind fun t157 => (some t157)) else (some false)) else (some true)))) else (some false)) else (some false)) else (some false)))))))))
end
def ap_.f (k : Nat) (l0 : List Int) (l1 : List Int) : Option (Bool) := (cX_.f l0 l1).bind fun t101 => (if t101 = true then (some true) else ((cN_.f k l0).bind fun t102 => ((bZ_.f k l1 t102).bind fun t105 => ((bZ_.f k l0 t102).bind fun t108 => ((al_.f k t102 t105 t102).bind fun bt111 => ((al_.f k t102 t102 t105).bind fun bt115 => ((al_.f k t102 t105 t105).bind fun bt119 => (if bt111.2 = 0 then (if bt115.2 = 0 then (if bt119.2 = 0 then ((bk_.f k bt111.1 t105).bind fun t123 => (if t123 = true then ((bk_.f k bt115.1 t105).bind fun t124 => (if t124 = true then ((bk_.f k bt119.1 t105).bind fun t125 => (ap_.j0 k l1 t102 t105 t108 (!t125))) else (ap_.j0 k l1 t102 t105 t108 true))) else (ap_.j0 k l1 t102 t105 t108 true))) else (ap_.j0 k l1 t102 t105 t108 true)) else (ap_.j0 k l1 t102 t105 t108 true)) else (ap_.j0 k l1 t102 t105 t108 true)))))))))
set_option maxHeartbeats 8000000 in
set_option maxRecDepth 100000 in
theorem ap_.calls (k : Nat) (A0 : Option Addr) (c0 : Nat) (l0 : List Int) (A1 : Option Addr) (c1 : Nat) (l1 : List Int) (r : Bool) (w : World) (hr0 : Kd.C (Kd.int .u8) w A0 l0.length l0) (hc0 : l0.length ≤ c0) (hr1 : Kd.C (Kd.int .u8) w A1 l1.length l1) (hc1 : l1.length ≤ c1) (h : ap_.f k l0 l1 = some r) :
  Calls Try.prog 6 #[.slice A0 l0.length c0, .slice A1 l1.length c1] w fun e w' => e = .returned (.bool r) ∧ Below w.heap.size w w' := by
 have HR0 := Aside0.mk hr0
 have HC0 := Aside0.mk hc0
 clear hr0 hc0
 have HR1 := Aside0.mk hr1
 have HC1 := Aside0.mk hc1
 clear hr1 hc1
 have HB := Aside0.mk (Below.refl w.heap.size w)
 have H : ((cX_.f l0 l1).bind fun t101 => (if t101 = true then (some true) else ((cN_.f k l0).bind fun t102 => ((bZ_.f k l1 t102).bind fun t105 => ((bZ_.f k l0 t102).bind fun t108 => ((al_.f k t102 t105 t102).bind fun bt111 => ((al_.f k t102 t102 t105).bind fun bt115 => ((al_.f k t102 t105 t105).bind fun bt119 => (if bt111.2 = 0 then (if bt115.2 = 0 then (if bt119.2 = 0 then ((bk_.f k bt111.1 t105).bind fun t123 => (if t123 = true then ((bk_.f k bt115.1 t105).bind fun t124 => (if t124 = true then ((bk_.f k bt119.1 t105).bind fun t125 => (ap_.j0 k l1 t102 t105 t108 (!t125))) else (ap_.j0 k l1 t102 t105 t108 true))) else (ap_.j0 k l1 t102 t105 t108 true))) else (ap_.j0 k l1 t102 t105 t108 true)) else (ap_.j0 k l1 t102 t105 t108 true)) else (ap_.j0 k l1 t102 t105 t108 true)))))))))) = some r := h
 clear h
 replace H := Option.bind_eq_some_iff.mp H
 obtain ⟨t101, A30, H⟩ := H
 (try dsimp only at H)
 have A3 := Aside0.mk A30
 clear A30
 have HC4 := Aside0.mk H
 clear H
 go_enter Try.func6, Try.ntmps6
 go_upto_if 34 with (first | ((with_reducible refine ah_ (f := 26) rfl ?_); refine aN_ (some 34) rfl rfl Try.func26 (by kernel_rfl) rfl #[.slice A0 l0.length c0, .slice A1 l1.length c1] rfl (by first | rfl | (simp only [lma_, lmc_, lmn_]; first | done | rfl)) ?_; (with_reducible refine (cX_.calls _ _ l0 _ _ l1 t101 _ ?side1 ?side2 ?side3 ?side4 A3.out).mono ?_); (case side1 => exact cz HR0.out); (case side2 => exact HC0.out); (case side3 => exact cz HR1.out); (case side4 => exact HC1.out); rintro e w' ⟨rfl, ⟨nd, rfl⟩⟩; refine ⟨_, rfl, ?_⟩))
 (try simp only [Act.put, lsa_, ls0_, ls1_])
 have H := HC4.out
 clear HC4
 by_cases c5 : t101 = true
 rotate_left
 ·replace c5 := Bool.eq_false_iff.mpr c5
  subst c5
  have H1 : ((cN_.f k l0).bind fun t102 => ((bZ_.f k l1 t102).bind fun t105 => ((bZ_.f k l0 t102).bind fun t108 => ((al_.f k t102 t105 t102).bind fun bt111 => ((al_.f k t102 t102 t105).bind fun bt115 => ((al_.f k t102 t105 t105).bind fun bt119 => (if bt111.2 = 0 then (if bt115.2 = 0 then (if bt119.2 = 0 then ((bk_.f k bt111.1 t105).bind fun t123 => (if t123 = true then ((bk_.f k bt115.1 t105).bind fun t124 => (if t124 = true then ((bk_.f k bt119.1 t105).bind fun t125 => (ap_.j0 k l1 t102 t105 t108 (!t125))) else (ap_.j0 k l1 t102 t105 t108 true))) else (ap_.j0 k l1 t102 t105 t108 true))) else (ap_.j0 k l1 t102 t105 t108 true)) else (ap_.j0 k l1 t102 t105 t108 true)) else (ap_.j0 k l1 t102 t105 t108 true)))))))) = some r := by rw [if_neg (show ¬ (false = true) by decide)] at H; exact H
  clear H
  have H := H1
  clear H1
  replace H := Option.bind_eq_some_iff.mp H
  obtain ⟨t102, A60, H⟩ := H
  (try dsimp only at H)
  have A6 := Aside0.mk A60
  clear A60
  replace H := Option.bind_eq_some_iff.mp H
  obtain ⟨t105, A70, H⟩ := H
  (try dsimp only at H)
  have A7 := Aside0.mk A70
  clear A70
  replace H := Option.bind_eq_some_iff.mp H
  obtain ⟨t108, A80, H⟩ := H
  (try dsimp only at H)
  have A8 := Aside0.mk A80
  clear A80
  replace H := Option.bind_eq_some_iff.mp H
  obtain ⟨⟨t111, t114⟩, A90, H⟩ := H
  (try dsimp only at H)
  have A9 := Aside0.mk A90
  clear A90
  replace H := Option.bind_eq_some_iff.mp H
  obtain ⟨⟨t115, t118⟩, A100, H⟩ := H
  (try dsimp only at H)
  have A10 := Aside0.mk A100
  clear A100
  replace H := Option.bind_eq_some_iff.mp H
  obtain ⟨⟨t119, t122⟩, A110, H⟩ := H
  (try dsimp only at H)
  have A11 := Aside0.mk A110
  clear A110
  have HC12 := Aside0.mk H
  clear H
  go_upto_region 9 with (first | ((with_reducible refine ah_ (f := 27) rfl ?_); refine aN_ (some 36) rfl rfl Try.func27 (by kernel_rfl) rfl #[.slice A0 l0.length c0] rfl (by first | rfl | (simp only [lma_, lmc_, lmn_]; first | done | rfl)) ?_; (with_reducible refine (cN_.calls k _ _ l0 t102 _ ?side1 ?side2 A6.out).mono ?_); (case side1 => exact cz (Kd.bM_ HR0.out HB.out)); (case side2 => exact HC0.out); rintro e w13 ⟨v103, rfl, ho0, hb⟩; refine ⟨_, rfl, ?_⟩; have HO104 := Aside0.mk (Kd.bt_ ho0 (ae_ (bz HB.out))); replace HB := Aside0.mk (ac_ (bz HB.out) hb); (try clear hb); (try clear ho0); obtain ⟨Ao14, co14, eo14⟩ := Kd.bn_ HO104.out; subst eo14) | ((with_reducible refine ah_ (f := 28) rfl ?_); refine aN_ (some 39) rfl rfl Try.func28 (by kernel_rfl) rfl #[.slice A1 l1.length c1, .slice Ao14 t102.length co14] rfl (by first | rfl | (simp only [lma_, lmc_, lmn_]; first | done | rfl)) ?_; (with_reducible refine (bZ_.calls k _ _ l1 _ _ t102 t105 _ ?side1 ?side2 ?side3 ?side4 A7.out).mono ?_); (case side1 => exact cz (Kd.bM_ HR1.out HB.out)); (case side2 => exact HC1.out); (case side3 => exact cz (Kd.as_ HO104.out).2.2); (case side4 => exact (Kd.as_ HO104.out).2.1); rintro e w15 ⟨v106, rfl, ho0, hb⟩; refine ⟨_, rfl, ?_⟩; have HO107 := Aside0.mk (Kd.bt_ (Kd.bB_ ho0 (Kd.R_lt (rz HO104.out))) (ae_ (bz HB.out))); replace HO104 := Aside0.mk (Kd.aK_ (rz HO104.out) (Kd.aZ_ ho0) hb); replace HB := Aside0.mk (ac_ (bz HB.out) hb); (try clear hb); (try clear ho0)) | ((with_reducible refine ah_ (f := 28) rfl ?_); refine aN_ (some 42) rfl rfl Try.func28 (by kernel_rfl) rfl #[.slice A0 l0.length c0, .slice Ao14 t102.length co14] rfl (by first | rfl | (simp only [lma_, lmc_, lmn_]; first | done | rfl)) ?_; (with_reducible refine (bZ_.calls k _ _ l0 _ _ t102 t108 _ ?side1 ?side2 ?side3 ?side4 A8.out).mono ?_); (case side1 => exact cz (Kd.bM_ HR0.out HB.out)); (case side2 => exact HC0.out); (case side3 => exact cz (Kd.as_ HO104.out).2.2); (case side4 => exact (Kd.as_ HO104.out).2.1); rintro e w16 ⟨v109, rfl, ho0, hb⟩; refine ⟨_, rfl, ?_⟩; have HO110 := Aside0.mk (Kd.bt_ (Kd.bB_ (Kd.bB_ ho0 (Kd.R_lt (rz HO104.out))) (Kd.R_lt (rz HO107.out))) (ae_ (bz HB.out))); replace HO104 := Aside0.mk (Kd.aK_ (rz HO104.out) (Kd.aZ_ ho0) hb); replace HO107 := Aside0.mk (Kd.aK_ (rz HO107.out) (Kd.aZ_ ho0) hb); replace HB := Aside0.mk (ac_ (bz HB.out) hb); (try clear hb); (try clear ho0); obtain ⟨Ao17, co17, eo17⟩ := Kd.bn_ HO107.out; subst eo17) | ((with_reducible refine ah_ (f := 17) rfl ?_); refine aN_ (some 47) rfl rfl Try.func17 (by kernel_rfl) rfl #[.slice Ao14 t102.length co14, .slice Ao17 t105.length co17, .slice Ao14 t102.length co14] rfl (by first | rfl | (simp only [lma_, lmc_, lmn_]; first | done | rfl)) ?_; (with_reducible refine (al_.calls k _ _ t102 (fun k_ => some k_ = (.slice Ao17 t105.length co17 : Value).ownBlock) _ _ t105 (fun k_ => some k_ = (.slice Ao14 t102.length co14 : Value).ownBlock) _ _ t102 t111 t114 _ ?side1 ?side2 ?side3 ?side4 A9.out).mono ?_); (case side1 => exact cz (Kd.as_ HO104.out).2.2); (case side2 => exact (Kd.as_ HO104.out).2.1); (case side3 => exact Kd.R_V (Kd.cD_ rfl (HO107.out))); (case side4 => exact Kd.R_V (Kd.cD_ rfl (HO104.out))); rintro e w18 ⟨v112, rfl, ho0, hb⟩; refine ⟨_, rfl, ?_⟩; have HO113 := Aside0.mk (Kd.bt_ (Kd.bB_ (Kd.bB_ (Kd.bB_ (Kd.aB_ (ok' := fun k_ => True) ho0 (fun _ hk_ => trivial)) (Kd.R_lt (rz HO104.out))) (Kd.R_lt (rz HO107.out))) (Kd.R_lt (rz HO110.out))) (ae_ (bz HB.out))); replace HO104 := Aside0.mk (Kd.aK_ (rz HO104.out) (Kd.aZ_ ho0) hb); replace HO107 := Aside0.mk (Kd.aK_ (rz HO107.out) (Kd.aZ_ ho0) hb); replace HO110 := Aside0.mk (Kd.aK_ (rz HO110.out) (Kd.aZ_ ho0) hb); replace HB := Aside0.mk (ac_ (bz HB.out) hb); (try clear hb); (try clear ho0)) | ((with_reducible refine ah_ (f := 17) rfl ?_); refine aN_ (some 54) rfl rfl Try.func17 (by kernel_rfl) rfl #[.slice Ao14 t102.length co14, .slice Ao14 t102.length co14, .slice Ao17 t105.length co17] rfl (by first | rfl | (simp only [lma_, lmc_, lmn_]; first | done | rfl)) ?_; (with_reducible refine (al_.calls k _ _ t102 (fun k_ => some k_ = (.slice Ao14 t102.length co14 : Value).ownBlock) _ _ t102 (fun k_ => some k_ = (.slice Ao17 t105.length co17 : Value).ownBlock) _ _ t105 t115 t118 _ ?side1 ?side2 ?side3 ?side4 A10.out).mono ?_); (case side1 => exact cz (Kd.as_ HO104.out).2.2); (case side2 => exact (Kd.as_ HO104.out).2.1); (case side3 => exact Kd.R_V (Kd.cD_ rfl (HO104.out))); (case side4 => exact Kd.R_V (Kd.cD_ rfl (HO107.out))); rintro e w19 ⟨v116, rfl, ho0, hb⟩; refine ⟨_, rfl, ?_⟩; have HO117 := Aside0.mk (Kd.bt_ (Kd.bB_ (Kd.bB_ (Kd.bB_ (Kd.bB_ (Kd.aB_ (ok' := fun k_ => True) ho0 (fun _ hk_ => trivial)) (Kd.R_lt (rz HO104.out))) (Kd.R_lt (rz HO107.out))) (Kd.R_lt (rz HO110.out))) (Kd.R_lt (rz HO113.out))) (ae_ (bz HB.out))); replace HO104 := Aside0.mk (Kd.aK_ (rz HO104.out) (Kd.aZ_ ho0) hb); replace HO107 := Aside0.mk (Kd.aK_ (rz HO107.out) (Kd.aZ_ ho0) hb); replace HO110 := Aside0.mk (Kd.aK_ (rz HO110.out) (Kd.aZ_ ho0) hb); replace HO113 := Aside0.mk (Kd.aK_ (rz HO113.out) (Kd.aZ_ ho0) hb); replace HB := Aside0.mk (ac_ (bz HB.out) hb); (try clear hb); (try clear ho0)) | ((with_reducible refine ah_ (f := 17) rfl ?_); refine aN_ (some 61) rfl rfl Try.func17 (by kernel_rfl) rfl #[.slice Ao14 t102.length co14, .slice Ao17 t105.length co17, .slice Ao17 t105.length co17] rfl (by first | rfl | (simp only [lma_, lmc_, lmn_]; first | done | rfl)) ?_; (with_reducible refine (al_.calls k _ _ t102 (fun k_ => some k_ = (.slice Ao17 t105.length co17 : Value).ownBlock) _ _ t105 (fun k_ => some k_ = (.slice Ao17 t105.length co17 : Value).ownBlock) _ _ t105 t119 t122 _ ?side1 ?side2 ?side3 ?side4 A11.out).mono ?_); (case side1 => exact cz (Kd.as_ HO104.out).2.2); (case side2 => exact (Kd.as_ HO104.out).2.1); (case side3 => exact Kd.R_V (Kd.cD_ rfl (HO107.out))); (case side4 => exact Kd.R_V (Kd.cD_ rfl (HO107.out))); rintro e w20 ⟨v120, rfl, ho0, hb⟩; refine ⟨_, rfl, ?_⟩; have HO121 := Aside0.mk (Kd.bt_ (Kd.bB_ (Kd.bB_ (Kd.bB_ (Kd.bB_ (Kd.bB_ (Kd.aB_ (ok' := fun k_ => True) ho0 (fun _ hk_ => trivial)) (Kd.R_lt (rz HO104.out))) (Kd.R_lt (rz HO107.out))) (Kd.R_lt (rz HO110.out))) (Kd.R_lt (rz HO113.out))) (Kd.R_lt (rz HO117.out))) (ae_ (bz HB.out))); replace HO104 := Aside0.mk (Kd.aK_ (rz HO104.out) (Kd.aZ_ ho0) hb); replace HO107 := Aside0.mk (Kd.aK_ (rz HO107.out) (Kd.aZ_ ho0) hb); replace HO110 := Aside0.mk (Kd.aK_ (rz HO110.out) (Kd.aZ_ ho0) hb); replace HO113 := Aside0.mk (Kd.aK_ (rz HO113.out) (Kd.aZ_ ho0) hb); replace HO117 := Aside0.mk (Kd.aK_ (rz HO117.out) (Kd.aZ_ ho0) hb); replace HB := Aside0.mk (ac_ (bz HB.out) hb); (try clear hb); (try clear ho0)))
  (try simp only [Act.put, lsa_, ls0_, ls1_])
  go_cut [91] (fun v91 wc => ∃ (kq : Nat) (x91_11 : Bool), v91 = .bool x91_11 ∧ Aside0 (ap_.j0 kq l1 t102 t105 t108 x91_11 = some r) ∧ Aside0 (kq ≤ k) ∧ Aside0 (Kd.R k63 63 wc w.heap.size (fun k_ => some k_ ≠ ((.slice Ao17 t105.length co17) : Value).ownBlock ∧ some k_ ≠ (v109 : Value).ownBlock) (.slice Ao14 t102.length co14) t102) ∧ Aside0 (Kd.R k63 63 wc w.heap.size (fun k_ => some k_ ≠ ((.slice Ao14 t102.length co14) : Value).ownBlock ∧ some k_ ≠ (v109 : Value).ownBlock) (.slice Ao17 t105.length co17) t105) ∧ Aside0 (Kd.R k63 63 wc w.heap.size (fun k_ => some k_ ≠ ((.slice Ao14 t102.length co14) : Value).ownBlock ∧ some k_ ≠ ((.slice Ao17 t105.length co17) : Value).ownBlock) v109 t108) ∧ Aside0 (Below w.heap.size w wc))
  case first =>
   have H := HC12.out
   clear HC12
   by_cases c21 : t114 = 0
   rotate_left
   ·rw [if_neg c21] at H
    have c21b0 : (t114 == 0) = false := beq_eq_false_iff_ne.mpr c21
    have c21b1 : (t114 != 0) = true := bne_iff_ne.mpr c21
    (first | rw [c21b0] | (simp only [i64_w, i32_w]; rw [c21b0]) | (simp only [c21b1, Bool.not_true, Bool.not_false]) | (simp only [c21b0, Bool.not_true, Bool.not_false]) | skip)
    have H' := Aside0.mk H
    clear H
    go_wp2
    go_meet
    case rel => exact ⟨_, (true), (by first | rfl | (simp; done) | (simp [*]; done)), H', ⟨by first | omega | exact Nat.le_refl _⟩, ⟨rz (Kd.aB_ HO104.out (fun _ hk => ⟨hk.1.1.1.1.2, hk.1.1.1.2⟩))⟩, ⟨rz (Kd.aB_ HO107.out (fun _ hk => ⟨hk.1.1.1.1.2, hk.1.1.1.2⟩))⟩, ⟨rz (Kd.aB_ HO110.out (fun _ hk => ⟨hk.1.1.1.1.2, hk.1.1.1.2⟩))⟩, ⟨bz HB.out⟩⟩
   rw [if_pos c21] at H
   have c21b0 : (t114 == 0) = true := beq_iff_eq.mpr c21
   have c21b1 : (t114 != 0) = false := bne_eq_false_iff_eq.mpr c21
   clear c21
   (first | rw [c21b0] | (simp only [i64_w, i32_w]; rw [c21b0]) | (simp only [c21b1, Bool.not_true, Bool.not_false]) | (simp only [c21b0, Bool.not_true, Bool.not_false]) | skip)
   by_cases c22 : t118 = 0
   rotate_left
   ·rw [if_neg c22] at H
    have c22b0 : (t118 == 0) = false := beq_eq_false_iff_ne.mpr c22
    have c22b1 : (t118 != 0) = true := bne_iff_ne.mpr c22
    have H' := Aside0.mk H
    clear H
    go_wp2
    go_meet
    case rel => exact ⟨_, (true), (by first | rfl | (simp; done) | (simp [*]; done)), H', ⟨by first | omega | exact Nat.le_refl _⟩, ⟨rz (Kd.aB_ HO104.out (fun _ hk => ⟨hk.1.1.1.1.2, hk.1.1.1.2⟩))⟩, ⟨rz (Kd.aB_ HO107.out (fun _ hk => ⟨hk.1.1.1.1.2, hk.1.1.1.2⟩))⟩, ⟨rz (Kd.aB_ HO110.out (fun _ hk => ⟨hk.1.1.1.1.2, hk.1.1.1.2⟩))⟩, ⟨bz HB.out⟩⟩
   rw [if_pos c22] at H
   have c22b0 : (t118 == 0) = true := beq_iff_eq.mpr c22
   have c22b1 : (t118 != 0) = false := bne_eq_false_iff_eq.mpr c22
   clear c22
   by_cases c23 : t122 = 0
   rotate_left
   ·rw [if_neg c23] at H
    have c23b0 : (t122 == 0) = false := beq_eq_false_iff_ne.mpr c23
    have c23b1 : (t122 != 0) = true := bne_iff_ne.mpr c23
    have H' := Aside0.mk H
    clear H
    go_wp2
    go_meet
    case rel => exact ⟨_, (true), (by first | rfl | (simp; done) | (simp [*]; done)), H', ⟨by first | omega | exact Nat.le_refl _⟩, ⟨rz (Kd.aB_ HO104.out (fun _ hk => ⟨hk.1.1.1.1.2, hk.1.1.1.2⟩))⟩, ⟨rz (Kd.aB_ HO107.out (fun _ hk => ⟨hk.1.1.1.1.2, hk.1.1.1.2⟩))⟩, ⟨rz (Kd.aB_ HO110.out (fun _ hk => ⟨hk.1.1.1.1.2, hk.1.1.1.2⟩))⟩, ⟨bz HB.out⟩⟩
   rw [if_pos c23] at H
   have c23b0 : (t122 == 0) = true := beq_iff_eq.mpr c23
   have c23b1 : (t122 != 0) = false := bne_eq_false_iff_eq.mpr c23
   clear c23
   replace H := Option.bind_eq_some_iff.mp H
   obtain ⟨t123, A240, H⟩ := H
   (try dsimp only at H)
   have A24 := Aside0.mk A240
   clear A240
   by_cases c25 : t123 = true
   rotate_left
   ·replace c25 := Bool.eq_false_iff.mpr c25
    subst c25
    have H1 : (ap_.j0 k l1 t102 t105 t108 true) = some r := by rw [if_neg (show ¬ (false = true) by decide)] at H; exact H
    clear H
    have H := H1
    clear H1
    have H' := Aside0.mk H
    clear H
    obtain ⟨Ao34, co34, eo34⟩ := Kd.bn_ HO113.out
    subst eo34
    go_wp2_with (first | (go_at_call 29; (with_reducible refine (bk_.calls k _ _ t111 _ _ t105 false _ ?side1 ?side2 ?side3 ?side4 A24.out).mono ?_); (case side1 => exact cz (Kd.as_ HO113.out).2.2); (case side2 => exact (Kd.as_ HO113.out).2.1); (case side3 => exact cz (Kd.as_ HO107.out).2.2); (case side4 => exact (Kd.as_ HO107.out).2.1); rintro e w' ⟨rfl, ⟨nd, rfl⟩⟩; (try (rw [bL_ w20]; generalize hq_ : World.drewN w20 _ = w20; replace HO104 := Aside0.mk (rqR hq_ HO104.out); replace HO107 := Aside0.mk (rqR hq_ HO107.out); replace HO110 := Aside0.mk (rqR hq_ HO110.out); replace HO113 := Aside0.mk (rqR hq_ HO113.out); replace HO117 := Aside0.mk (rqR hq_ HO117.out); replace HO121 := Aside0.mk (rqR hq_ HO121.out); replace HB := Aside0.mk (rqH hq_ HB.out); clear hq_))))
    go_meet
    case rel => exact ⟨_, (true), (by first | rfl | (simp; done) | (simp [*]; done)), H', ⟨by first | omega | exact Nat.le_refl _⟩, ⟨rz (Kd.aB_ HO104.out (fun _ hk => ⟨hk.1.1.1.1.2, hk.1.1.1.2⟩))⟩, ⟨rz (Kd.aB_ HO107.out (fun _ hk => ⟨hk.1.1.1.1.2, hk.1.1.1.2⟩))⟩, ⟨rz (Kd.aB_ HO110.out (fun _ hk => ⟨hk.1.1.1.1.2, hk.1.1.1.2⟩))⟩, ⟨bz HB.out⟩⟩
   subst c25
   have H1 : ((bk_.f k t115 t105).bind fun t124 => (if t124 = true then ((bk_.f k t119 t105).bind fun t125 => (ap_.j0 k l1 t102 t105 t108 (!t125))) else (ap_.j0 k l1 t102 t105 t108 true))) = some r := by rw [if_pos rfl] at H; exact H
   clear H
   have H := H1
   clear H1
   replace H := Option.bind_eq_some_iff.mp H
   obtain ⟨t124, A260, H⟩ := H
   (try dsimp only at H)
   have A26 := Aside0.mk A260
   clear A260
   by_cases c27 : t124 = true
   rotate_left
   ·replace c27 := Bool.eq_false_iff.mpr c27
    subst c27
    have H1 : (ap_.j0 k l1 t102 t105 t108 true) = some r := by rw [if_neg (show ¬ (false = true) by decide)] at H; exact H
    clear H
    have H := H1
    clear H1
    have H' := Aside0.mk H
    clear H
    obtain ⟨Ao32, co32, eo32⟩ := Kd.bn_ HO113.out
    subst eo32
    go_wp2_with (first | (go_at_call 29; (with_reducible refine (bk_.calls k _ _ t111 _ _ t105 true _ ?side1 ?side2 ?side3 ?side4 A24.out).mono ?_); (case side1 => exact cz (Kd.as_ HO113.out).2.2); (case side2 => exact (Kd.as_ HO113.out).2.1); (case side3 => exact cz (Kd.as_ HO107.out).2.2); (case side4 => exact (Kd.as_ HO107.out).2.1); rintro e w' ⟨rfl, ⟨nd, rfl⟩⟩; (try (rw [bL_ w20]; generalize hq_ : World.drewN w20 _ = w20; replace HO104 := Aside0.mk (rqR hq_ HO104.out); replace HO107 := Aside0.mk (rqR hq_ HO107.out); replace HO110 := Aside0.mk (rqR hq_ HO110.out); replace HO113 := Aside0.mk (rqR hq_ HO113.out); replace HO117 := Aside0.mk (rqR hq_ HO117.out); replace HO121 := Aside0.mk (rqR hq_ HO121.out); replace HB := Aside0.mk (rqH hq_ HB.out); clear hq_)); obtain ⟨Ao33, co33, eo33⟩ := Kd.bn_ HO117.out; subst eo33) | (go_at_call 29; (with_reducible refine (bk_.calls k _ _ t115 _ _ t105 false _ ?side1 ?side2 ?side3 ?side4 A26.out).mono ?_); (case side1 => exact cz (Kd.as_ HO117.out).2.2); (case side2 => exact (Kd.as_ HO117.out).2.1); (case side3 => exact cz (Kd.as_ HO107.out).2.2); (case side4 => exact (Kd.as_ HO107.out).2.1); rintro e w' ⟨rfl, ⟨nd, rfl⟩⟩; (try (rw [bL_ w20]; generalize hq_ : World.drewN w20 _ = w20; replace HO104 := Aside0.mk (rqR hq_ HO104.out); replace HO107 := Aside0.mk (rqR hq_ HO107.out); replace HO110 := Aside0.mk (rqR hq_ HO110.out); replace HO113 := Aside0.mk (rqR hq_ HO113.out); replace HO117 := Aside0.mk (rqR hq_ HO117.out); replace HO121 := Aside0.mk (rqR hq_ HO121.out); replace HB := Aside0.mk (rqH hq_ HB.out); clear hq_))))
    go_meet
    case rel => exact ⟨_, (true), (by first | rfl | (simp; done) | (simp [*]; done)), H', ⟨by first | omega | exact Nat.le_refl _⟩, ⟨rz (Kd.aB_ HO104.out (fun _ hk => ⟨hk.1.1.1.1.2, hk.1.1.1.2⟩))⟩, ⟨rz (Kd.aB_ HO107.out (fun _ hk => ⟨hk.1.1.1.1.2, hk.1.1.1.2⟩))⟩, ⟨rz (Kd.aB_ HO110.out (fun _ hk => ⟨hk.1.1.1.1.2, hk.1.1.1.2⟩))⟩, ⟨bz HB.out⟩⟩
   subst c27
   have H1 : ((bk_.f k t119 t105).bind fun t125 => (ap_.j0 k l1 t102 t105 t108 (!t125))) = some r := by rw [if_pos rfl] at H; exact H
   clear H
   have H := H1
   clear H1
   replace H := Option.bind_eq_some_iff.mp H
   obtain ⟨t125, A280, H⟩ := H
   (try dsimp only at H)
   have A28 := Aside0.mk A280
   clear A280
   have H' := Aside0.mk H
   clear H
   obtain ⟨Ao29, co29, eo29⟩ := Kd.bn_ HO113.out
   subst eo29
   go_wp2_with (first | (go_at_call 29; (with_reducible refine (bk_.calls k _ _ t111 _ _ t105 true _ ?side1 ?side2 ?side3 ?side4 A24.out).mono ?_); (case side1 => exact cz (Kd.as_ HO113.out).2.2); (case side2 => exact (Kd.as_ HO113.out).2.1); (case side3 => exact cz (Kd.as_ HO107.out).2.2); (case side4 => exact (Kd.as_ HO107.out).2.1); rintro e w' ⟨rfl, ⟨nd, rfl⟩⟩; (try (rw [bL_ w20]; generalize hq_ : World.drewN w20 _ = w20; replace HO104 := Aside0.mk (rqR hq_ HO104.out); replace HO107 := Aside0.mk (rqR hq_ HO107.out); replace HO110 := Aside0.mk (rqR hq_ HO110.out); replace HO113 := Aside0.mk (rqR hq_ HO113.out); replace HO117 := Aside0.mk (rqR hq_ HO117.out); replace HO121 := Aside0.mk (rqR hq_ HO121.out); replace HB := Aside0.mk (rqH hq_ HB.out); clear hq_)); obtain ⟨Ao30, co30, eo30⟩ := Kd.bn_ HO117.out; subst eo30) | (go_at_call 29; (with_reducible refine (bk_.calls k _ _ t115 _ _ t105 true _ ?side1 ?side2 ?side3 ?side4 A26.out).mono ?_); (case side1 => exact cz (Kd.as_ HO117.out).2.2); (case side2 => exact (Kd.as_ HO117.out).2.1); (case side3 => exact cz (Kd.as_ HO107.out).2.2); (case side4 => exact (Kd.as_ HO107.out).2.1); rintro e w' ⟨rfl, ⟨nd, rfl⟩⟩; (try (rw [bL_ w20]; generalize hq_ : World.drewN w20 _ = w20; replace HO104 := Aside0.mk (rqR hq_ HO104.out); replace HO107 := Aside0.mk (rqR hq_ HO107.out); replace HO110 := Aside0.mk (rqR hq_ HO110.out); replace HO113 := Aside0.mk (rqR hq_ HO113.out); replace HO117 := Aside0.mk (rqR hq_ HO117.out); replace HO121 := Aside0.mk (rqR hq_ HO121.out); replace HB := Aside0.mk (rqH hq_ HB.out); clear hq_)); obtain ⟨Ao31, co31, eo31⟩ := Kd.bn_ HO121.out; subst eo31) | (go_at_call 29; (with_reducible refine (bk_.calls k _ _ t119 _ _ t105 t125 _ ?side1 ?side2 ?side3 ?side4 A28.out).mono ?_); (case side1 => exact cz (Kd.as_ HO121.out).2.2); (case side2 => exact (Kd.as_ HO121.out).2.1); (case side3 => exact cz (Kd.as_ HO107.out).2.2); (case side4 => exact (Kd.as_ HO107.out).2.1); rintro e w' ⟨rfl, ⟨nd, rfl⟩⟩; (try (rw [bL_ w20]; generalize hq_ : World.drewN w20 _ = w20; replace HO104 := Aside0.mk (rqR hq_ HO104.out); replace HO107 := Aside0.mk (rqR hq_ HO107.out); replace HO110 := Aside0.mk (rqR hq_ HO110.out); replace HO113 := Aside0.mk (rqR hq_ HO113.out); replace HO117 := Aside0.mk (rqR hq_ HO117.out); replace HO121 := Aside0.mk (rqR hq_ HO121.out); replace HB := Aside0.mk (rqH hq_ HB.out); clear hq_))))
   go_meet
   case rel => exact ⟨_, (!t125), (by first | rfl | (simp; done) | (simp [*]; done)), H', ⟨by first | omega | exact Nat.le_refl _⟩, ⟨rz (Kd.aB_ HO104.out (fun _ hk => ⟨hk.1.1.1.1.2, hk.1.1.1.2⟩))⟩, ⟨rz (Kd.aB_ HO107.out (fun _ hk => ⟨hk.1.1.1.1.2, hk.1.1.1.2⟩))⟩, ⟨rz (Kd.aB_ HO110.out (fun _ hk => ⟨hk.1.1.1.1.2, hk.1.1.1.2⟩))⟩, ⟨bz HB.out⟩⟩
  case rest => as_aux_lemma =>
   clear HC12
   obtain ⟨kq, x91_11, rfl, HA, HJ11, HO_5, HO_6, HO_7, HB⟩ := hcut
   cases kq with
   | zero => exact absurd HA.out (by simp [ap_.j0])
   | succ kj11 =>
    have H := HA.out
    clear HA
    simp only [ap_.j0] at H
    by_cases c35 : x91_11 = true
    rotate_left
    ·replace c35 := Bool.eq_false_iff.mpr c35
     subst c35
     have H1 : ((av_.f kj11 t102 t105 t108).bind fun bt126 => ((av_.f kj11 t102 t108 t105).bind fun bt130 => ((al_.f kj11 t102 t105 t108).bind fun bt134 => ((al_.f kj11 t102 t108 t105).bind fun bt138 => (if bt126.2 = 0 then (if bt130.2 = 0 then (if (bt126.1.length : Int) = (bt130.1.length : Int) then (if bt134.2 = bt138.2 then (if ((bt134.2 == 6) != (decide ((bt126.1.length : Int) > 0))) = true then (ap_.j1 kj11 l1 true) else (if bt134.2 = 0 then ((bk_.f kj11 bt134.1 bt138.1).bind fun t142 => (if t142 = true then ((cF_.f kj11 bt134.1).bind fun t143 => (ap_.j1 kj11 l1 (!t143))) else (ap_.j1 kj11 l1 true))) else (ap_.j1 kj11 l1 false))) else (ap_.j1 kj11 l1 true)) else (ap_.j1 kj11 l1 true)) else (ap_.j1 kj11 l1 true)) else (ap_.j1 kj11 l1 true)))))) = some r := by rw [if_neg (show ¬ (false = true) by decide)] at H; exact H
     clear H
     have H := H1
     clear H1
     replace H := Option.bind_eq_some_iff.mp H
     obtain ⟨⟨t126, t129⟩, A360, H⟩ := H
     (try dsimp only at H)
     have A36 := Aside0.mk A360
     clear A360
     replace H := Option.bind_eq_some_iff.mp H
     obtain ⟨⟨t130, t133⟩, A370, H⟩ := H
     (try dsimp only at H)
     have A37 := Aside0.mk A370
     clear A370
     replace H := Option.bind_eq_some_iff.mp H
     obtain ⟨⟨t134, t137⟩, A380, H⟩ := H
     (try dsimp only at H)
     have A38 := Aside0.mk A380
     clear A380
     replace H := Option.bind_eq_some_iff.mp H
     obtain ⟨⟨t138, t141⟩, A390, H⟩ := H
     (try dsimp only at H)
     have A39 := Aside0.mk A390
     clear A390
     have HC40 := Aside0.mk H
     clear H
     obtain ⟨Ao41, co41, eo41⟩ := Kd.bn_ HO_7.out
     subst eo41
     go_upto_region 15 with (first | ((with_reducible refine ah_ (f := 10) rfl ?_); refine aN_ (some 96) rfl rfl Try.func10 (by kernel_rfl) rfl #[.slice Ao14 t102.length co14, .slice Ao17 t105.length co17, .slice Ao41 t108.length co41] rfl (by first | rfl | (simp only [lma_, lmc_, lmn_]; first | done | rfl)) ?_; (with_reducible refine (av_.calls kj11 (fun k_ => some k_ = (.slice Ao14 t102.length co14 : Value).ownBlock) _ _ t102 (fun k_ => some k_ = (.slice Ao17 t105.length co17 : Value).ownBlock) _ _ t105 (fun k_ => some k_ = (.slice Ao41 t108.length co41 : Value).ownBlock) _ _ t108 t126 t129 _ ?side1 ?side2 ?side3 A36.out).mono ?_); (case side1 => exact Kd.R_V (Kd.cD_ rfl (HO_5.out))); (case side2 => exact Kd.R_V (Kd.cD_ rfl (HO_6.out))); (case side3 => exact Kd.R_V (Kd.cD_ rfl (HO_7.out))); rintro e w42 ⟨v127, rfl, ho0, hb⟩; refine ⟨_, rfl, ?_⟩; replace HO_5 := Aside0.mk (Kd.aT_ (rz HO_5.out) hb); replace HO_6 := Aside0.mk (Kd.aT_ (rz HO_6.out) hb); replace HO_7 := Aside0.mk (Kd.aT_ (rz HO_7.out) hb); have HO128 := Aside0.mk (Kd.bt_ (Kd.aB_ (ok' := fun k_ => True) ho0 (fun _ hk_ => trivial)) (ae_ (bz HB.out))); replace HB := Aside0.mk (ac_ (bz HB.out) hb); (try clear hb); (try clear ho0)) | ((with_reducible refine ah_ (f := 10) rfl ?_); refine aN_ (some 103) rfl rfl Try.func10 (by kernel_rfl) rfl #[.slice Ao14 t102.length co14, .slice Ao41 t108.length co41, .slice Ao17 t105.length co17] rfl (by first | rfl | (simp only [lma_, lmc_, lmn_]; first | done | rfl)) ?_; (with_reducible refine (av_.calls kj11 (fun k_ => some k_ = (.slice Ao14 t102.length co14 : Value).ownBlock) _ _ t102 (fun k_ => some k_ = (.slice Ao41 t108.length co41 : Value).ownBlock) _ _ t108 (fun k_ => some k_ = (.slice Ao17 t105.length co17 : Value).ownBlock) _ _ t105 t130 t133 _ ?side1 ?side2 ?side3 A37.out).mono ?_); (case side1 => exact Kd.R_V (Kd.cD_ rfl (Kd.cn_ (HO_5.out) (Kd.cR_ HO128.out) (by decide)))); (case side2 => exact Kd.R_V (Kd.cD_ rfl (Kd.cn_ (HO_7.out) (Kd.cR_ HO128.out) (by decide)))); (case side3 => exact Kd.R_V (Kd.cD_ rfl (Kd.cn_ (HO_6.out) (Kd.cR_ HO128.out) (by decide)))); rintro e w43 ⟨v131, rfl, ho0, hb⟩; refine ⟨_, rfl, ?_⟩; replace HO_5 := Aside0.mk (Kd.aT_ (rz HO_5.out) hb); replace HO_6 := Aside0.mk (Kd.aT_ (rz HO_6.out) hb); replace HO_7 := Aside0.mk (Kd.aT_ (rz HO_7.out) hb); have HO132 := Aside0.mk (Kd.bt_ (Kd.bB_ (Kd.aB_ (ok' := fun k_ => True) ho0 (fun _ hk_ => trivial)) (Kd.R_lt (rz HO128.out))) (ae_ (bz HB.out))); replace HO128 := Aside0.mk (Kd.aK_ (rz HO128.out) (Kd.aZ_ ho0) hb); replace HB := Aside0.mk (ac_ (bz HB.out) hb); (try clear hb); (try clear ho0)) | ((with_reducible refine ah_ (f := 17) rfl ?_); refine aN_ (some 110) rfl rfl Try.func17 (by kernel_rfl) rfl #[.slice Ao14 t102.length co14, .slice Ao17 t105.length co17, .slice Ao41 t108.length co41] rfl (by first | rfl | (simp only [lma_, lmc_, lmn_]; first | done | rfl)) ?_; (with_reducible refine (al_.calls kj11 _ _ t102 (fun k_ => some k_ = (.slice Ao17 t105.length co17 : Value).ownBlock) _ _ t105 (fun k_ => some k_ = (.slice Ao41 t108.length co41 : Value).ownBlock) _ _ t108 t134 t137 _ ?side1 ?side2 ?side3 ?side4 A38.out).mono ?_); (case side1 => exact cz (Kd.as_ HO_5.out).2.2); (case side2 => exact (Kd.as_ HO_5.out).2.1); (case side3 => exact Kd.R_V (Kd.cD_ rfl (Kd.cn_ (Kd.cn_ (HO_6.out) (Kd.cR_ HO128.out) (by decide)) (Kd.cR_ HO132.out) (by decide)))); (case side4 => exact Kd.R_V (Kd.cD_ rfl (Kd.cn_ (Kd.cn_ (HO_7.out) (Kd.cR_ HO128.out) (by decide)) (Kd.cR_ HO132.out) (by decide)))); rintro e w44 ⟨v135, rfl, ho0, hb⟩; refine ⟨_, rfl, ?_⟩; replace HO128 := Aside0.mk (Kd.aT_ (rz HO128.out) hb); replace HO132 := Aside0.mk (Kd.aT_ (rz HO132.out) hb); have HO136 := Aside0.mk (Kd.bt_ (Kd.bB_ (Kd.bB_ (Kd.bB_ (Kd.aB_ (ok' := fun k_ => True) ho0 (fun _ hk_ => trivial)) (Kd.R_lt (rz HO_5.out))) (Kd.R_lt (rz HO_6.out))) (Kd.R_lt (rz HO_7.out))) (ae_ (bz HB.out))); replace HO_5 := Aside0.mk (Kd.aK_ (rz HO_5.out) (Kd.aZ_ ho0) hb); replace HO_6 := Aside0.mk (Kd.aK_ (rz HO_6.out) (Kd.aZ_ ho0) hb); replace HO_7 := Aside0.mk (Kd.aK_ (rz HO_7.out) (Kd.aZ_ ho0) hb); replace HB := Aside0.mk (ac_ (bz HB.out) hb); (try clear hb); (try clear ho0)) | ((with_reducible refine ah_ (f := 17) rfl ?_); refine aN_ (some 117) rfl rfl Try.func17 (by kernel_rfl) rfl #[.slice Ao14 t102.length co14, .slice Ao41 t108.length co41, .slice Ao17 t105.length co17] rfl (by first | rfl | (simp only [lma_, lmc_, lmn_]; first | done | rfl)) ?_; (with_reducible refine (al_.calls kj11 _ _ t102 (fun k_ => some k_ = (.slice Ao41 t108.length co41 : Value).ownBlock) _ _ t108 (fun k_ => some k_ = (.slice Ao17 t105.length co17 : Value).ownBlock) _ _ t105 t138 t141 _ ?side1 ?side2 ?side3 ?side4 A39.out).mono ?_); (case side1 => exact cz (Kd.as_ HO_5.out).2.2); (case side2 => exact (Kd.as_ HO_5.out).2.1); (case side3 => exact Kd.R_V (Kd.cD_ rfl (Kd.cn_ (Kd.cn_ (HO_7.out) (Kd.cR_ HO128.out) (by decide)) (Kd.cR_ HO132.out) (by decide)))); (case side4 => exact Kd.R_V (Kd.cD_ rfl (Kd.cn_ (Kd.cn_ (HO_6.out) (Kd.cR_ HO128.out) (by decide)) (Kd.cR_ HO132.out) (by decide)))); rintro e w45 ⟨v139, rfl, ho0, hb⟩; refine ⟨_, rfl, ?_⟩; replace HO128 := Aside0.mk (Kd.aT_ (rz HO128.out) hb); replace HO132 := Aside0.mk (Kd.aT_ (rz HO132.out) hb); have HO140 := Aside0.mk (Kd.bt_ (Kd.bB_ (Kd.bB_ (Kd.bB_ (Kd.bB_ (Kd.aB_ (ok' := fun k_ => True) ho0 (fun _ hk_ => trivial)) (Kd.R_lt (rz HO_5.out))) (Kd.R_lt (rz HO_6.out))) (Kd.R_lt (rz HO_7.out))) (Kd.R_lt (rz HO136.out))) (ae_ (bz HB.out))); replace HO_5 := Aside0.mk (Kd.aK_ (rz HO_5.out) (Kd.aZ_ ho0) hb); replace HO_6 := Aside0.mk (Kd.aK_ (rz HO_6.out) (Kd.aZ_ ho0) hb); replace HO_7 := Aside0.mk (Kd.aK_ (rz HO_7.out) (Kd.aZ_ ho0) hb); replace HO136 := Aside0.mk (Kd.aK_ (rz HO136.out) (Kd.aZ_ ho0) hb); replace HB := Aside0.mk (ac_ (bz HB.out) hb); (try clear hb); (try clear ho0)))
     (try simp only [Act.put, lsa_, ls0_, ls1_])
     go_cut [160] (fun v160 wc => ∃ (kq : Nat) (x160_39 : Bool), v160 = .bool x160_39 ∧ Aside0 (ap_.j1 kq l1 x160_39 = some r) ∧ Aside0 (kq ≤ kj11) ∧ Aside0 (Below w.heap.size w wc))
     case first =>
      have H := HC40.out
      clear HC40
      by_cases c46 : t129 = 0
      rotate_left
      ·rw [if_neg c46] at H
       have c46b0 : (t129 == 0) = false := beq_eq_false_iff_ne.mpr c46
       have c46b1 : (t129 != 0) = true := bne_iff_ne.mpr c46
       (first | rw [c46b0] | (simp only [i64_w, i32_w]; rw [c46b0]) | (simp only [c46b1, Bool.not_true, Bool.not_false]) | (simp only [c46b0, Bool.not_true, Bool.not_false]) | skip)
       have H' := Aside0.mk H
       clear H
       go_wp2
       go_meet
       case rel => exact ⟨_, (true), (by first | rfl | (simp; done) | (simp [*]; done)), H', ⟨by have := HJ11.out; first | omega | exact Nat.le_refl _⟩, ⟨bz HB.out⟩⟩
      rw [if_pos c46] at H
      have c46b0 : (t129 == 0) = true := beq_iff_eq.mpr c46
      have c46b1 : (t129 != 0) = false := bne_eq_false_iff_eq.mpr c46
      clear c46
      (first | rw [c46b0] | (simp only [i64_w, i32_w]; rw [c46b0]) | (simp only [c46b1, Bool.not_true, Bool.not_false]) | (simp only [c46b0, Bool.not_true, Bool.not_false]) | skip)
      by_cases c47 : t133 = 0
      rotate_left
      ·rw [if_neg c47] at H
       have c47b0 : (t133 == 0) = false := beq_eq_false_iff_ne.mpr c47
       have c47b1 : (t133 != 0) = true := bne_iff_ne.mpr c47
       have H' := Aside0.mk H
       clear H
       go_wp2
       go_meet
       case rel => exact ⟨_, (true), (by first | rfl | (simp; done) | (simp [*]; done)), H', ⟨by have := HJ11.out; first | omega | exact Nat.le_refl _⟩, ⟨bz HB.out⟩⟩
      rw [if_pos c47] at H
      have c47b0 : (t133 == 0) = true := beq_iff_eq.mpr c47
      have c47b1 : (t133 != 0) = false := bne_eq_false_iff_eq.mpr c47
      clear c47
      by_cases c48 : (t126.length : Int) = (t130.length : Int)
      rotate_left
      ·rw [if_neg c48] at H
       have c48b0 : ((t126.length : Int) == (t130.length : Int)) = false := beq_eq_false_iff_ne.mpr c48
       have c48b1 : ((t126.length : Int) != (t130.length : Int)) = true := bne_iff_ne.mpr c48
       have c48b2 : (t126.length == t130.length) = false := by first | simpa using c48 | (simp at c48 ⊢; omega)
       have H' := Aside0.mk H
       clear H
       obtain ⟨Ao70, co70, eo70⟩ := Kd.bn_ HO128.out
       subst eo70
       obtain ⟨Ao71, co71, eo71⟩ := Kd.bn_ HO132.out
       subst eo71
       go_wp2
       go_meet
       case rel => exact ⟨_, (true), (by first | rfl | (simp; done) | (simp [*]; done)), H', ⟨by have := HJ11.out; first | omega | exact Nat.le_refl _⟩, ⟨bz HB.out⟩⟩
      rw [if_pos c48] at H
      have c48b0 : ((t126.length : Int) == (t130.length : Int)) = true := beq_iff_eq.mpr c48
      have c48b1 : ((t126.length : Int) != (t130.length : Int)) = false := bne_eq_false_iff_eq.mpr c48
      have c48b2 : (t126.length == t130.length) = true := by first | simpa using c48 | (simp at c48 ⊢; omega)
      clear c48
      by_cases c49 : t137 = t141
      rotate_left
      ·rw [if_neg c49] at H
       have c49b0 : (t137 == t141) = false := beq_eq_false_iff_ne.mpr c49
       have c49b1 : (t137 != t141) = true := bne_iff_ne.mpr c49
       have H' := Aside0.mk H
       clear H
       obtain ⟨Ao68, co68, eo68⟩ := Kd.bn_ HO128.out
       subst eo68
       obtain ⟨Ao69, co69, eo69⟩ := Kd.bn_ HO132.out
       subst eo69
       go_wp2
       go_meet
       case rel => exact ⟨_, (true), (by first | rfl | (simp; done) | (simp [*]; done)), H', ⟨by have := HJ11.out; first | omega | exact Nat.le_refl _⟩, ⟨bz HB.out⟩⟩
      rw [if_pos c49] at H
      have c49b0 : (t137 == t141) = true := beq_iff_eq.mpr c49
      have c49b1 : (t137 != t141) = false := bne_eq_false_iff_eq.mpr c49
      clear c49
      by_cases c50 : ((t137 == 6) != (decide ((t126.length : Int) > 0))) = true
      rotate_left
      ·rw [if_neg c50] at H
       have c50b0 : ((t137 == 6) != (decide ((t126.length : Int) > 0))) = false := by simpa using c50
       (try (have c50b1 : decide ((t137 == 6) = (decide ((t126.length : Int) > 0))) = true := by simpa using c50))
       (try (have c50b2 : ((t137 == 6) == (decide ((t126.length : Int) > 0))) = true := by simpa using c50))
       (try (have c50b3 : ((t137 == 6) == (decide (0 < t126.length))) = true := by simpa using c50))
       (try (have c50b4 : ((t137 == 6) != (decide (0 < t126.length))) = false := by simpa using c50))
       (try (have c50b5 : decide ((t137 == 6) = (decide (0 < t126.length))) = true := by simpa using c50))
       clear c50
       by_cases c53 : t137 = 0
       rotate_left
       ·rw [if_neg c53] at H
        have c53b0 : (t137 == 0) = false := beq_eq_false_iff_ne.mpr c53
        have c53b1 : (t137 != 0) = true := bne_iff_ne.mpr c53
        have H' := Aside0.mk H
        clear H
        obtain ⟨Ao66, co66, eo66⟩ := Kd.bn_ HO128.out
        subst eo66
        obtain ⟨Ao67, co67, eo67⟩ := Kd.bn_ HO132.out
        subst eo67
        go_wp2
        go_meet
        case rel => exact ⟨_, (false), (by first | rfl | (simp; done) | (simp [*]; done)), H', ⟨by have := HJ11.out; first | omega | exact Nat.le_refl _⟩, ⟨bz HB.out⟩⟩
       rw [if_pos c53] at H
       have c53b0 : (t137 == 0) = true := beq_iff_eq.mpr c53
       have c53b1 : (t137 != 0) = false := bne_eq_false_iff_eq.mpr c53
       clear c53
       replace H := Option.bind_eq_some_iff.mp H
       obtain ⟨t142, A540, H⟩ := H
       (try dsimp only at H)
       have A54 := Aside0.mk A540
       clear A540
       by_cases c55 : t142 = true
       rotate_left
       ·replace c55 := Bool.eq_false_iff.mpr c55
        subst c55
        have H1 : (ap_.j1 kj11 l1 true) = some r := by rw [if_neg (show ¬ (false = true) by decide)] at H; exact H
        clear H
        have H := H1
        clear H1
        have H' := Aside0.mk H
        clear H
        obtain ⟨Ao62, co62, eo62⟩ := Kd.bn_ HO128.out
        subst eo62
        obtain ⟨Ao63, co63, eo63⟩ := Kd.bn_ HO132.out
        subst eo63
        obtain ⟨Ao64, co64, eo64⟩ := Kd.bn_ HO136.out
        subst eo64
        obtain ⟨Ao65, co65, eo65⟩ := Kd.bn_ HO140.out
        subst eo65
        go_wp2_with (first | (go_at_call 29; (with_reducible refine (bk_.calls kj11 _ _ t134 _ _ t138 false _ ?side1 ?side2 ?side3 ?side4 A54.out).mono ?_); (case side1 => exact cz (Kd.as_ HO136.out).2.2); (case side2 => exact (Kd.as_ HO136.out).2.1); (case side3 => exact cz (Kd.as_ HO140.out).2.2); (case side4 => exact (Kd.as_ HO140.out).2.1); rintro e w' ⟨rfl, ⟨nd, rfl⟩⟩; (try (rw [bL_ w45]; generalize hq_ : World.drewN w45 _ = w45; replace HO128 := Aside0.mk (rqR hq_ HO128.out); replace HO132 := Aside0.mk (rqR hq_ HO132.out); replace HO136 := Aside0.mk (rqR hq_ HO136.out); replace HO140 := Aside0.mk (rqR hq_ HO140.out); replace HO_5 := Aside0.mk (rqR hq_ HO_5.out); replace HO_6 := Aside0.mk (rqR hq_ HO_6.out); replace HO_7 := Aside0.mk (rqR hq_ HO_7.out); replace HB := Aside0.mk (rqH hq_ HB.out); clear hq_))))
        go_meet
        case rel => exact ⟨_, (true), (by first | rfl | (simp; done) | (simp [*]; done)), H', ⟨by have := HJ11.out; first | omega | exact Nat.le_refl _⟩, ⟨bz HB.out⟩⟩
       subst c55
       have H1 : ((cF_.f kj11 t134).bind fun t143 => (ap_.j1 kj11 l1 (!t143))) = some r := by rw [if_pos rfl] at H; exact H
       clear H
       have H := H1
       clear H1
       replace H := Option.bind_eq_some_iff.mp H
       obtain ⟨t143, A560, H⟩ := H
       (try dsimp only at H)
       have A56 := Aside0.mk A560
       clear A560
       have H' := Aside0.mk H
       clear H
       obtain ⟨Ao57, co57, eo57⟩ := Kd.bn_ HO128.out
       subst eo57
       obtain ⟨Ao58, co58, eo58⟩ := Kd.bn_ HO132.out
       subst eo58
       obtain ⟨Ao59, co59, eo59⟩ := Kd.bn_ HO136.out
       subst eo59
       obtain ⟨Ao60, co60, eo60⟩ := Kd.bn_ HO140.out
       subst eo60
       go_wp2_with (first | (go_at_call 29; (with_reducible refine (bk_.calls kj11 _ _ t134 _ _ t138 true _ ?side1 ?side2 ?side3 ?side4 A54.out).mono ?_); (case side1 => exact cz (Kd.as_ HO136.out).2.2); (case side2 => exact (Kd.as_ HO136.out).2.1); (case side3 => exact cz (Kd.as_ HO140.out).2.2); (case side4 => exact (Kd.as_ HO140.out).2.1); rintro e w' ⟨rfl, ⟨nd, rfl⟩⟩; (try (rw [bL_ w45]; generalize hq_ : World.drewN w45 _ = w45; replace HO128 := Aside0.mk (rqR hq_ HO128.out); replace HO132 := Aside0.mk (rqR hq_ HO132.out); replace HO136 := Aside0.mk (rqR hq_ HO136.out); replace HO140 := Aside0.mk (rqR hq_ HO140.out); replace HO_5 := Aside0.mk (rqR hq_ HO_5.out); replace HO_6 := Aside0.mk (rqR hq_ HO_6.out); replace HO_7 := Aside0.mk (rqR hq_ HO_7.out); replace HB := Aside0.mk (rqH hq_ HB.out); clear hq_))) | (go_at_call 30; (with_reducible refine (cF_.calls kj11 _ _ t134 t143 _ ?side1 ?side2 A56.out).mono ?_); (case side1 => exact cz (Kd.as_ HO136.out).2.2); (case side2 => exact (Kd.as_ HO136.out).2.1); rintro e w61 ⟨rfl, hb⟩; replace HO_5 := Aside0.mk (Kd.aT_ (rz HO_5.out) hb); replace HO_6 := Aside0.mk (Kd.aT_ (rz HO_6.out) hb); replace HO_7 := Aside0.mk (Kd.aT_ (rz HO_7.out) hb); replace HO128 := Aside0.mk (Kd.aT_ (rz HO128.out) hb); replace HO132 := Aside0.mk (Kd.aT_ (rz HO132.out) hb); replace HO136 := Aside0.mk (Kd.aT_ (rz HO136.out) hb); replace HO140 := Aside0.mk (Kd.aT_ (rz HO140.out) hb); replace HB := Aside0.mk (ac_ (bz HB.out) hb); (try clear hb)))
       go_meet
       case rel => exact ⟨_, (!t143), (by first | rfl | (simp; done) | (simp [*]; done)), H', ⟨by have := HJ11.out; first | omega | exact Nat.le_refl _⟩, ⟨bz HB.out⟩⟩
      rw [if_pos c50] at H
      have c50b0 : ((t137 == 6) != (decide ((t126.length : Int) > 0))) = true := c50
      (try (have c50b1 : decide ((t137 == 6) = (decide ((t126.length : Int) > 0))) = false := by simpa using c50))
      (try (have c50b2 : ((t137 == 6) == (decide ((t126.length : Int) > 0))) = false := by simpa using c50))
      (try (have c50b3 : ¬ ((t137 == 6) = (decide ((t126.length : Int) > 0))) := by simpa using c50))
      (try (have c50b4 : ((t137 == 6) == (decide (0 < t126.length))) = false := by simpa using c50))
      (try (have c50b5 : ((t137 == 6) != (decide (0 < t126.length))) = true := by simpa using c50))
      (try (have c50b6 : decide ((t137 == 6) = (decide (0 < t126.length))) = false := by simpa using c50))
      clear c50
      have H' := Aside0.mk H
      clear H
      obtain ⟨Ao51, co51, eo51⟩ := Kd.bn_ HO128.out
      subst eo51
      obtain ⟨Ao52, co52, eo52⟩ := Kd.bn_ HO132.out
      subst eo52
      go_wp2
      go_meet
      case rel => exact ⟨_, (true), (by first | rfl | (simp; done) | (simp [*]; done)), H', ⟨by have := HJ11.out; first | omega | exact Nat.le_refl _⟩, ⟨bz HB.out⟩⟩
     case rest => as_aux_lemma =>
      clear HC40
      obtain ⟨kq, x160_39, rfl, HA, HJ39, HB⟩ := hcut
      cases kq with
      | zero => exact absurd HA.out (by simp [ap_.j1])
      | succ kj39 =>
       have H := HA.out
       clear HA
       simp only [ap_.j1] at H
       by_cases c72 : x160_39 = true
       rotate_left
       ·replace c72 := Bool.eq_false_iff.mpr c72
        subst c72
        have H1 : ((cK_.f kj39 l1).bind fun t144 => (if (t144.length : Int) = 0 then (some true) else ((cq_.f l1 0 (t144.length : Int)).bind fun t147 => ((cq_.f l1 1 (t144.length : Int)).bind fun t148 => ((bf_.f kj39 t144 (wrap64 (1 + t147)) (wrap64 (1 + t148))).bind fun bt149 => ((bf_.f kj39 t144 (wrap64 (1 + t148)) (wrap64 (1 + t147))).bind fun bt151 => ((aI_.f kj39 t144 (wrap64 (1 + t147)) (wrap64 (1 + t148)) (⟨#[98, 111, 116, 104]⟩ : ByteArray)).bind fun bt153 => (if bt149.2 = 0 then (if bt151.2 = 0 then (if bt149.1 = bt151.1 then (if bt149.1 < 0 then (some false) else (if bt149.1 > (mn (wrap64 (1 + t147)) (wrap64 (1 + t148))) then (some false) else (if bt153.2 = 0 then (if (bt153.1.length : Int) = (wrap64 ((t144.length : Int) + 1)) then ((cr_.f kj39 bt153.1).bind fun t157 => (some t157)) else (some false)) else (some true)))) else (some false)) else (some false)) else (some false))))))))) = some r := by rw [if_neg (show ¬ (false = true) by decide)] at H; exact H
        clear H
        have H := H1
        clear H1
        replace H := Option.bind_eq_some_iff.mp H
        obtain ⟨t144, A730, H⟩ := H
        (try dsimp only at H)
        have A73 := Aside0.mk A730
        clear A730
        have HC74 := Aside0.mk H
        clear H
        go_upto_if 166 with (first | ((with_reducible refine ah_ (f := 31) rfl ?_); refine aN_ (some 162) rfl rfl Try.func31 (by kernel_rfl) rfl #[.slice A1 l1.length c1] rfl (by first | rfl | (simp only [lma_, lmc_, lmn_]; first | done | rfl)) ?_; (with_reducible refine (cK_.calls kj39 _ _ l1 t144 _ ?side1 ?side2 A73.out).mono ?_); (case side1 => exact cz (Kd.bM_ HR1.out HB.out)); (case side2 => exact HC1.out); rintro e w75 ⟨v145, rfl, ho0, hb⟩; refine ⟨_, rfl, ?_⟩; have HO146 := Aside0.mk (Kd.S_lower ho0 (ae_ (bz HB.out))); replace HB := Aside0.mk (ac_ (bz HB.out) hb); (try clear hb); (try clear ho0); obtain ⟨Ao76, co76, eo76⟩ := Kd.S_slice HO146.out; subst eo76))
        (try simp only [Act.put, lsa_, ls0_, ls1_])
        have H := HC74.out
        clear HC74
        by_cases c77 : (t144.length : Int) = 0
        rotate_left
        ·rw [if_neg c77] at H
         have c77b0 : ((t144.length : Int) == 0) = false := beq_eq_false_iff_ne.mpr c77
         have c77b1 : ((t144.length : Int) != 0) = true := bne_iff_ne.mpr c77
         have c77b2 : ¬ (t144 = []) := fun h_ => c77 (by rw [h_]; rfl)
         (first | rw [c77b0] | (simp only [i64_w, i32_w]; rw [c77b0]) | (simp only [c77b1, Bool.not_true, Bool.not_false]) | (simp only [c77b0, Bool.not_true, Bool.not_false]) | skip)
         replace H := Option.bind_eq_some_iff.mp H
         obtain ⟨t147, A780, H⟩ := H
         (try dsimp only at H)
         have A78 := Aside0.mk A780
         clear A780
         replace H := Option.bind_eq_some_iff.mp H
         obtain ⟨t148, A790, H⟩ := H
         (try dsimp only at H)
         have A79 := Aside0.mk A790
         clear A790
         replace H := Option.bind_eq_some_iff.mp H
         obtain ⟨⟨t149, t150⟩, A800, H⟩ := H
         (try dsimp only at H)
         have A80 := Aside0.mk A800
         clear A800
         replace H := Option.bind_eq_some_iff.mp H
         obtain ⟨⟨t151, t152⟩, A810, H⟩ := H
         (try dsimp only at H)
         have A81 := Aside0.mk A810
         clear A810
         replace H := Option.bind_eq_some_iff.mp H
         obtain ⟨⟨t153, t154⟩, A820, H⟩ := H
         (try dsimp only at H)
         have A82 := Aside0.mk A820
         clear A820
         by_cases c83 : t150 = 0
         rotate_left
         ·rw [if_neg c83] at H
          have c83b0 : (t150 == 0) = false := beq_eq_false_iff_ne.mpr c83
          have c83b1 : (t150 != 0) = true := bne_iff_ne.mpr c83
          obtain rfl := Option.some.inj H
          go_wp2_with (first | ((with_reducible refine ah_ (f := 32) rfl ?_); refine aN_ (some 169) rfl rfl Try.func32 (by kernel_rfl) rfl #[.slice A1 l1.length c1, .int .i64 0, .int .i64 (t144.length : Int)] rfl (by first | rfl | (simp only [lma_, lmc_, lmn_]; first | done | rfl)) ?_; (with_reducible refine (cq_.calls _ _ l1 0 (t144.length : Int) t147 _ ?side1 ?side2 A78.out).mono ?_); (case side1 => exact cz (Kd.bM_ HR1.out HB.out)); (case side2 => exact HC1.out); rintro e w' ⟨rfl, ⟨nd, rfl⟩⟩; refine ⟨_, rfl, ?_⟩; (try (rw [bL_ w75]; generalize hq_ : World.drewN w75 _ = w75; replace HO146 := Aside0.mk (rqS hq_ HO146.out); replace HB := Aside0.mk (rqH hq_ HB.out); clear hq_))) | ((with_reducible refine ah_ (f := 32) rfl ?_); refine aN_ (some 173) rfl rfl Try.func32 (by kernel_rfl) rfl #[.slice A1 l1.length c1, .int .i64 1, .int .i64 (t144.length : Int)] rfl (by first | rfl | (simp only [lma_, lmc_, lmn_]; first | done | rfl)) ?_; (with_reducible refine (cq_.calls _ _ l1 1 (t144.length : Int) t148 _ ?side1 ?side2 A79.out).mono ?_); (case side1 => exact cz (Kd.bM_ HR1.out HB.out)); (case side2 => exact HC1.out); rintro e w' ⟨rfl, ⟨nd, rfl⟩⟩; refine ⟨_, rfl, ?_⟩; (try (rw [bL_ w75]; generalize hq_ : World.drewN w75 _ = w75; replace HO146 := Aside0.mk (rqS hq_ HO146.out); replace HB := Aside0.mk (rqH hq_ HB.out); clear hq_))) | ((with_reducible refine ah_ (f := 33) rfl ?_); refine aN_ (some 179) rfl rfl Try.func33 (by kernel_rfl) rfl #[.slice Ao76 t144.length co76, .int .i64 (wrap64 (1 + t147)), .int .i64 (wrap64 (1 + t148))] rfl (by first | rfl | (simp only [lma_, lmc_, lmn_]; first | done | rfl)) ?_; (with_reducible refine (bf_.calls kj39 _ _ t144 (wrap64 (1 + t147)) (wrap64 (1 + t148)) t149 t150 _ ?side1 ?side2 A80.out).mono ?_); (case side1 => exact cz (Kd.bK_ HO146.out).2.2); (case side2 => exact (Kd.bK_ HO146.out).2.1); rintro e w108 ⟨rfl, hb⟩; refine ⟨_, rfl, ?_⟩; replace HO146 := Aside0.mk (Kd.cM_ (sz HO146.out) hb); replace HB := Aside0.mk (ac_ (bz HB.out) hb); (try clear hb)) | ((with_reducible refine ah_ (f := 33) rfl ?_); refine aN_ (some 186) rfl rfl Try.func33 (by kernel_rfl) rfl #[.slice Ao76 t144.length co76, .int .i64 (wrap64 (1 + t148)), .int .i64 (wrap64 (1 + t147))] rfl (by first | rfl | (simp only [lma_, lmc_, lmn_]; first | done | rfl)) ?_; (with_reducible refine (bf_.calls kj39 _ _ t144 (wrap64 (1 + t148)) (wrap64 (1 + t147)) t151 t152 _ ?side1 ?side2 A81.out).mono ?_); (case side1 => exact cz (Kd.bK_ HO146.out).2.2); (case side2 => exact (Kd.bK_ HO146.out).2.1); rintro e w109 ⟨rfl, hb⟩; refine ⟨_, rfl, ?_⟩; replace HO146 := Aside0.mk (Kd.cM_ (sz HO146.out) hb); replace HB := Aside0.mk (ac_ (bz HB.out) hb); (try clear hb)) | ((with_reducible refine ah_ (f := 22) rfl ?_); refine aN_ (some 193) rfl rfl Try.func22 (by kernel_rfl) rfl #[.slice Ao76 t144.length co76, .int .i64 (wrap64 (1 + t147)), .int .i64 (wrap64 (1 + t148)), .string (⟨#[98, 111, 116, 104]⟩ : ByteArray)] rfl (by first | rfl | (simp only [lma_, lmc_, lmn_]; first | done | rfl)) ?_; (with_reducible refine (aI_.calls kj39 _ _ t144 (wrap64 (1 + t147)) (wrap64 (1 + t148)) (⟨#[98, 111, 116, 104]⟩ : ByteArray) t153 t154 _ ?side1 ?side2 A82.out).mono ?_); (case side1 => exact cz (Kd.bK_ HO146.out).2.2); (case side2 => exact (Kd.bK_ HO146.out).2.1); rintro e w110 ⟨v155, rfl, ho0, hb⟩; refine ⟨_, rfl, ?_⟩; have HO156 := Aside0.mk (Kd.S_lower (Kd.S_new' ho0 (Kd.S_lt (sz HO146.out))) (ae_ (bz HB.out))); replace HO146 := Aside0.mk (Kd.S_elder' (sz HO146.out) (Kd.S_base ho0) hb); replace HB := Aside0.mk (ac_ (bz HB.out) hb); (try clear hb); (try clear ho0)))
          go_ret
          exact ⟨by first | rfl | (simp [*, ao_, an_] <;> rfl), bz HB.out⟩
         rw [if_pos c83] at H
         have c83b0 : (t150 == 0) = true := beq_iff_eq.mpr c83
         have c83b1 : (t150 != 0) = false := bne_eq_false_iff_eq.mpr c83
         clear c83
         by_cases c84 : t152 = 0
         rotate_left
         ·rw [if_neg c84] at H
          have c84b0 : (t152 == 0) = false := beq_eq_false_iff_ne.mpr c84
          have c84b1 : (t152 != 0) = true := bne_iff_ne.mpr c84
          obtain rfl := Option.some.inj H
          go_wp2_with (first | ((with_reducible refine ah_ (f := 32) rfl ?_); refine aN_ (some 169) rfl rfl Try.func32 (by kernel_rfl) rfl #[.slice A1 l1.length c1, .int .i64 0, .int .i64 (t144.length : Int)] rfl (by first | rfl | (simp only [lma_, lmc_, lmn_]; first | done | rfl)) ?_; (with_reducible refine (cq_.calls _ _ l1 0 (t144.length : Int) t147 _ ?side1 ?side2 A78.out).mono ?_); (case side1 => exact cz (Kd.bM_ HR1.out HB.out)); (case side2 => exact HC1.out); rintro e w' ⟨rfl, ⟨nd, rfl⟩⟩; refine ⟨_, rfl, ?_⟩; (try (rw [bL_ w75]; generalize hq_ : World.drewN w75 _ = w75; replace HO146 := Aside0.mk (rqS hq_ HO146.out); replace HB := Aside0.mk (rqH hq_ HB.out); clear hq_))) | ((with_reducible refine ah_ (f := 32) rfl ?_); refine aN_ (some 173) rfl rfl Try.func32 (by kernel_rfl) rfl #[.slice A1 l1.length c1, .int .i64 1, .int .i64 (t144.length : Int)] rfl (by first | rfl | (simp only [lma_, lmc_, lmn_]; first | done | rfl)) ?_; (with_reducible refine (cq_.calls _ _ l1 1 (t144.length : Int) t148 _ ?side1 ?side2 A79.out).mono ?_); (case side1 => exact cz (Kd.bM_ HR1.out HB.out)); (case side2 => exact HC1.out); rintro e w' ⟨rfl, ⟨nd, rfl⟩⟩; refine ⟨_, rfl, ?_⟩; (try (rw [bL_ w75]; generalize hq_ : World.drewN w75 _ = w75; replace HO146 := Aside0.mk (rqS hq_ HO146.out); replace HB := Aside0.mk (rqH hq_ HB.out); clear hq_))) | ((with_reducible refine ah_ (f := 33) rfl ?_); refine aN_ (some 179) rfl rfl Try.func33 (by kernel_rfl) rfl #[.slice Ao76 t144.length co76, .int .i64 (wrap64 (1 + t147)), .int .i64 (wrap64 (1 + t148))] rfl (by first | rfl | (simp only [lma_, lmc_, lmn_]; first | done | rfl)) ?_; (with_reducible refine (bf_.calls kj39 _ _ t144 (wrap64 (1 + t147)) (wrap64 (1 + t148)) t149 t150 _ ?side1 ?side2 A80.out).mono ?_); (case side1 => exact cz (Kd.bK_ HO146.out).2.2); (case side2 => exact (Kd.bK_ HO146.out).2.1); rintro e w105 ⟨rfl, hb⟩; refine ⟨_, rfl, ?_⟩; replace HO146 := Aside0.mk (Kd.cM_ (sz HO146.out) hb); replace HB := Aside0.mk (ac_ (bz HB.out) hb); (try clear hb)) | ((with_reducible refine ah_ (f := 33) rfl ?_); refine aN_ (some 186) rfl rfl Try.func33 (by kernel_rfl) rfl #[.slice Ao76 t144.length co76, .int .i64 (wrap64 (1 + t148)), .int .i64 (wrap64 (1 + t147))] rfl (by first | rfl | (simp only [lma_, lmc_, lmn_]; first | done | rfl)) ?_; (with_reducible refine (bf_.calls kj39 _ _ t144 (wrap64 (1 + t148)) (wrap64 (1 + t147)) t151 t152 _ ?side1 ?side2 A81.out).mono ?_); (case side1 => exact cz (Kd.bK_ HO146.out).2.2); (case side2 => exact (Kd.bK_ HO146.out).2.1); rintro e w106 ⟨rfl, hb⟩; refine ⟨_, rfl, ?_⟩; replace HO146 := Aside0.mk (Kd.cM_ (sz HO146.out) hb); replace HB := Aside0.mk (ac_ (bz HB.out) hb); (try clear hb)) | ((with_reducible refine ah_ (f := 22) rfl ?_); refine aN_ (some 193) rfl rfl Try.func22 (by kernel_rfl) rfl #[.slice Ao76 t144.length co76, .int .i64 (wrap64 (1 + t147)), .int .i64 (wrap64 (1 + t148)), .string (⟨#[98, 111, 116, 104]⟩ : ByteArray)] rfl (by first | rfl | (simp only [lma_, lmc_, lmn_]; first | done | rfl)) ?_; (with_reducible refine (aI_.calls kj39 _ _ t144 (wrap64 (1 + t147)) (wrap64 (1 + t148)) (⟨#[98, 111, 116, 104]⟩ : ByteArray) t153 t154 _ ?side1 ?side2 A82.out).mono ?_); (case side1 => exact cz (Kd.bK_ HO146.out).2.2); (case side2 => exact (Kd.bK_ HO146.out).2.1); rintro e w107 ⟨v155, rfl, ho0, hb⟩; refine ⟨_, rfl, ?_⟩; have HO156 := Aside0.mk (Kd.S_lower (Kd.S_new' ho0 (Kd.S_lt (sz HO146.out))) (ae_ (bz HB.out))); replace HO146 := Aside0.mk (Kd.S_elder' (sz HO146.out) (Kd.S_base ho0) hb); replace HB := Aside0.mk (ac_ (bz HB.out) hb); (try clear hb); (try clear ho0)))
          go_ret
          exact ⟨by first | rfl | (simp [*, ao_, an_] <;> rfl), bz HB.out⟩
         rw [if_pos c84] at H
         have c84b0 : (t152 == 0) = true := beq_iff_eq.mpr c84
         have c84b1 : (t152 != 0) = false := bne_eq_false_iff_eq.mpr c84
         clear c84
         by_cases c85 : t149 = t151
         rotate_left
         ·rw [if_neg c85] at H
          have c85b0 : (t149 == t151) = false := beq_eq_false_iff_ne.mpr c85
          have c85b1 : (t149 != t151) = true := bne_iff_ne.mpr c85
          obtain rfl := Option.some.inj H
          go_wp2_with (first | ((with_reducible refine ah_ (f := 32) rfl ?_); refine aN_ (some 169) rfl rfl Try.func32 (by kernel_rfl) rfl #[.slice A1 l1.length c1, .int .i64 0, .int .i64 (t144.length : Int)] rfl (by first | rfl | (simp only [lma_, lmc_, lmn_]; first | done | rfl)) ?_; (with_reducible refine (cq_.calls _ _ l1 0 (t144.length : Int) t147 _ ?side1 ?side2 A78.out).mono ?_); (case side1 => exact cz (Kd.bM_ HR1.out HB.out)); (case side2 => exact HC1.out); rintro e w' ⟨rfl, ⟨nd, rfl⟩⟩; refine ⟨_, rfl, ?_⟩; (try (rw [bL_ w75]; generalize hq_ : World.drewN w75 _ = w75; replace HO146 := Aside0.mk (rqS hq_ HO146.out); replace HB := Aside0.mk (rqH hq_ HB.out); clear hq_))) | ((with_reducible refine ah_ (f := 32) rfl ?_); refine aN_ (some 173) rfl rfl Try.func32 (by kernel_rfl) rfl #[.slice A1 l1.length c1, .int .i64 1, .int .i64 (t144.length : Int)] rfl (by first | rfl | (simp only [lma_, lmc_, lmn_]; first | done | rfl)) ?_; (with_reducible refine (cq_.calls _ _ l1 1 (t144.length : Int) t148 _ ?side1 ?side2 A79.out).mono ?_); (case side1 => exact cz (Kd.bM_ HR1.out HB.out)); (case side2 => exact HC1.out); rintro e w' ⟨rfl, ⟨nd, rfl⟩⟩; refine ⟨_, rfl, ?_⟩; (try (rw [bL_ w75]; generalize hq_ : World.drewN w75 _ = w75; replace HO146 := Aside0.mk (rqS hq_ HO146.out); replace HB := Aside0.mk (rqH hq_ HB.out); clear hq_))) | ((with_reducible refine ah_ (f := 33) rfl ?_); refine aN_ (some 179) rfl rfl Try.func33 (by kernel_rfl) rfl #[.slice Ao76 t144.length co76, .int .i64 (wrap64 (1 + t147)), .int .i64 (wrap64 (1 + t148))] rfl (by first | rfl | (simp only [lma_, lmc_, lmn_]; first | done | rfl)) ?_; (with_reducible refine (bf_.calls kj39 _ _ t144 (wrap64 (1 + t147)) (wrap64 (1 + t148)) t149 t150 _ ?side1 ?side2 A80.out).mono ?_); (case side1 => exact cz (Kd.bK_ HO146.out).2.2); (case side2 => exact (Kd.bK_ HO146.out).2.1); rintro e w102 ⟨rfl, hb⟩; refine ⟨_, rfl, ?_⟩; replace HO146 := Aside0.mk (Kd.cM_ (sz HO146.out) hb); replace HB := Aside0.mk (ac_ (bz HB.out) hb); (try clear hb)) | ((with_reducible refine ah_ (f := 33) rfl ?_); refine aN_ (some 186) rfl rfl Try.func33 (by kernel_rfl) rfl #[.slice Ao76 t144.length co76, .int .i64 (wrap64 (1 + t148)), .int .i64 (wrap64 (1 + t147))] rfl (by first | rfl | (simp only [lma_, lmc_, lmn_]; first | done | rfl)) ?_; (with_reducible refine (bf_.calls kj39 _ _ t144 (wrap64 (1 + t148)) (wrap64 (1 + t147)) t151 t152 _ ?side1 ?side2 A81.out).mono ?_); (case side1 => exact cz (Kd.bK_ HO146.out).2.2); (case side2 => exact (Kd.bK_ HO146.out).2.1); rintro e w103 ⟨rfl, hb⟩; refine ⟨_, rfl, ?_⟩; replace HO146 := Aside0.mk (Kd.cM_ (sz HO146.out) hb); replace HB := Aside0.mk (ac_ (bz HB.out) hb); (try clear hb)) | ((with_reducible refine ah_ (f := 22) rfl ?_); refine aN_ (some 193) rfl rfl Try.func22 (by kernel_rfl) rfl #[.slice Ao76 t144.length co76, .int .i64 (wrap64 (1 + t147)), .int .i64 (wrap64 (1 + t148)), .string (⟨#[98, 111, 116, 104]⟩ : ByteArray)] rfl (by first | rfl | (simp only [lma_, lmc_, lmn_]; first | done | rfl)) ?_; (with_reducible refine (aI_.calls kj39 _ _ t144 (wrap64 (1 + t147)) (wrap64 (1 + t148)) (⟨#[98, 111, 116, 104]⟩ : ByteArray) t153 t154 _ ?side1 ?side2 A82.out).mono ?_); (case side1 => exact cz (Kd.bK_ HO146.out).2.2); (case side2 => exact (Kd.bK_ HO146.out).2.1); rintro e w104 ⟨v155, rfl, ho0, hb⟩; refine ⟨_, rfl, ?_⟩; have HO156 := Aside0.mk (Kd.S_lower (Kd.S_new' ho0 (Kd.S_lt (sz HO146.out))) (ae_ (bz HB.out))); replace HO146 := Aside0.mk (Kd.S_elder' (sz HO146.out) (Kd.S_base ho0) hb); replace HB := Aside0.mk (ac_ (bz HB.out) hb); (try clear hb); (try clear ho0)))
          go_ret
          exact ⟨by first | rfl | (simp [*, ao_, an_] <;> rfl), bz HB.out⟩
         rw [if_pos c85] at H
         have c85b0 : (t149 == t151) = true := beq_iff_eq.mpr c85
         have c85b1 : (t149 != t151) = false := bne_eq_false_iff_eq.mpr c85
         clear c85
         by_cases c86 : t149 < 0
         rotate_left
         ·rw [if_neg c86] at H
          have c86b0 : decide (t149 < 0) = false := decide_eq_false c86
          clear c86
          obtain ⟨ji90, hji90⟩ : ∃ j_ : Int, (mn (wrap64 (1 + t147)) (wrap64 (1 + t148))) = j_ := ⟨_, rfl⟩
          replace H : (if t149 > (ji90) then (some false) else (if t154 = 0 then (if (t153.length : Int) = (wrap64 ((t144.length : Int) + 1)) then ((cr_.f kj39 t153).bind fun t157 => (some t157)) else (some false)) else (some true))) = some r := by first | (rw [hji90] at H; exact H) | (simp only [hji90] at H ⊢; exact H)
          (try rw [hji90] at A78)
          (try rw [hji90] at A79)
          (try rw [hji90] at A80)
          (try rw [hji90] at A81)
          (try rw [hji90] at A82)
          have hji90_ : (if (wrap64 (1 + t148)) < (wrap64 (1 + t147)) then (wrap64 (1 + t148)) else (wrap64 (1 + t147))) = ji90 := hji90
          have HC91 := Aside0.mk H
          clear H
          go_upto_if 217 with (first | ((with_reducible refine ah_ (f := 32) rfl ?_); refine aN_ (some 169) rfl rfl Try.func32 (by kernel_rfl) rfl #[.slice A1 l1.length c1, .int .i64 0, .int .i64 (t144.length : Int)] rfl (by first | rfl | (simp only [lma_, lmc_, lmn_]; first | done | rfl)) ?_; (with_reducible refine (cq_.calls _ _ l1 0 (t144.length : Int) t147 _ ?side1 ?side2 A78.out).mono ?_); (case side1 => exact cz (Kd.bM_ HR1.out HB.out)); (case side2 => exact HC1.out); rintro e w' ⟨rfl, ⟨nd, rfl⟩⟩; refine ⟨_, rfl, ?_⟩; (try (rw [bL_ w75]; generalize hq_ : World.drewN w75 _ = w75; replace HO146 := Aside0.mk (rqS hq_ HO146.out); replace HB := Aside0.mk (rqH hq_ HB.out); clear hq_))) | ((with_reducible refine ah_ (f := 32) rfl ?_); refine aN_ (some 173) rfl rfl Try.func32 (by kernel_rfl) rfl #[.slice A1 l1.length c1, .int .i64 1, .int .i64 (t144.length : Int)] rfl (by first | rfl | (simp only [lma_, lmc_, lmn_]; first | done | rfl)) ?_; (with_reducible refine (cq_.calls _ _ l1 1 (t144.length : Int) t148 _ ?side1 ?side2 A79.out).mono ?_); (case side1 => exact cz (Kd.bM_ HR1.out HB.out)); (case side2 => exact HC1.out); rintro e w' ⟨rfl, ⟨nd, rfl⟩⟩; refine ⟨_, rfl, ?_⟩; (try (rw [bL_ w75]; generalize hq_ : World.drewN w75 _ = w75; replace HO146 := Aside0.mk (rqS hq_ HO146.out); replace HB := Aside0.mk (rqH hq_ HB.out); clear hq_))) | ((with_reducible refine ah_ (f := 33) rfl ?_); refine aN_ (some 179) rfl rfl Try.func33 (by kernel_rfl) rfl #[.slice Ao76 t144.length co76, .int .i64 (wrap64 (1 + t147)), .int .i64 (wrap64 (1 + t148))] rfl (by first | rfl | (simp only [lma_, lmc_, lmn_]; first | done | rfl)) ?_; (with_reducible refine (bf_.calls kj39 _ _ t144 (wrap64 (1 + t147)) (wrap64 (1 + t148)) t149 t150 _ ?side1 ?side2 A80.out).mono ?_); (case side1 => exact cz (Kd.bK_ HO146.out).2.2); (case side2 => exact (Kd.bK_ HO146.out).2.1); rintro e w92 ⟨rfl, hb⟩; refine ⟨_, rfl, ?_⟩; replace HO146 := Aside0.mk (Kd.cM_ (sz HO146.out) hb); replace HB := Aside0.mk (ac_ (bz HB.out) hb); (try clear hb)) | ((with_reducible refine ah_ (f := 33) rfl ?_); refine aN_ (some 186) rfl rfl Try.func33 (by kernel_rfl) rfl #[.slice Ao76 t144.length co76, .int .i64 (wrap64 (1 + t148)), .int .i64 (wrap64 (1 + t147))] rfl (by first | rfl | (simp only [lma_, lmc_, lmn_]; first | done | rfl)) ?_; (with_reducible refine (bf_.calls kj39 _ _ t144 (wrap64 (1 + t148)) (wrap64 (1 + t147)) t151 t152 _ ?side1 ?side2 A81.out).mono ?_); (case side1 => exact cz (Kd.bK_ HO146.out).2.2); (case side2 => exact (Kd.bK_ HO146.out).2.1); rintro e w93 ⟨rfl, hb⟩; refine ⟨_, rfl, ?_⟩; replace HO146 := Aside0.mk (Kd.cM_ (sz HO146.out) hb); replace HB := Aside0.mk (ac_ (bz HB.out) hb); (try clear hb)) | ((with_reducible refine ah_ (f := 22) rfl ?_); refine aN_ (some 193) rfl rfl Try.func22 (by kernel_rfl) rfl #[.slice Ao76 t144.length co76, .int .i64 (wrap64 (1 + t147)), .int .i64 (wrap64 (1 + t148)), .string (⟨#[98, 111, 116, 104]⟩ : ByteArray)] rfl (by first | rfl | (simp only [lma_, lmc_, lmn_]; first | done | rfl)) ?_; (with_reducible refine (aI_.calls kj39 _ _ t144 (wrap64 (1 + t147)) (wrap64 (1 + t148)) (⟨#[98, 111, 116, 104]⟩ : ByteArray) t153 t154 _ ?side1 ?side2 A82.out).mono ?_); (case side1 => exact cz (Kd.bK_ HO146.out).2.2); (case side2 => exact (Kd.bK_ HO146.out).2.1); rintro e w94 ⟨v155, rfl, ho0, hb⟩; refine ⟨_, rfl, ?_⟩; have HO156 := Aside0.mk (Kd.S_lower (Kd.S_new' ho0 (Kd.S_lt (sz HO146.out))) (ae_ (bz HB.out))); replace HO146 := Aside0.mk (Kd.S_elder' (sz HO146.out) (Kd.S_base ho0) hb); replace HB := Aside0.mk (ac_ (bz HB.out) hb); (try clear hb); (try clear ho0)))
          (try simp only [Act.put, lsa_, ls0_, ls1_])
          have H := HC91.out
          clear HC91
          by_cases c95 : t149 > (ji90)
          rotate_left
          ·rw [if_neg c95] at H
           have c95b0 : decide ((ji90) < t149) = false := decide_eq_false c95
           clear c95
           (first | rw [c95b0] | (simp only [i64_w, i32_w]; rw [c95b0]) | (simp only [c95b1, Bool.not_true, Bool.not_false]) | (simp only [c95b0, Bool.not_true, Bool.not_false]) | skip)
           by_cases c96 : t154 = 0
           rotate_left
           ·rw [if_neg c96] at H
            have c96b0 : (t154 == 0) = false := beq_eq_false_iff_ne.mpr c96
            have c96b1 : (t154 != 0) = true := bne_iff_ne.mpr c96
            obtain rfl := Option.some.inj H
            go_wp2
            go_ret
            exact ⟨by first | rfl | (simp [ao_, an_] <;> rfl) | (simp only [← hji90]; first | rfl | (simp [ao_, an_] <;> rfl)) | (simp [*, ao_, an_] <;> rfl), bz HB.out⟩
           rw [if_pos c96] at H
           have c96b0 : (t154 == 0) = true := beq_iff_eq.mpr c96
           have c96b1 : (t154 != 0) = false := bne_eq_false_iff_eq.mpr c96
           clear c96
           by_cases c97 : (t153.length : Int) = (wrap64 ((t144.length : Int) + 1))
           rotate_left
           ·rw [if_neg c97] at H
            have c97b0 : ((t153.length : Int) == (wrap64 ((t144.length : Int) + 1))) = false := beq_eq_false_iff_ne.mpr c97
            have c97b1 : ((t153.length : Int) != (wrap64 ((t144.length : Int) + 1))) = true := bne_iff_ne.mpr c97
            obtain rfl := Option.some.inj H
            obtain ⟨Ao101, co101, eo101⟩ := Kd.S_slice HO156.out
            subst eo101
            go_wp2
            go_ret
            exact ⟨by first | rfl | (simp [ao_, an_] <;> rfl) | (simp only [← hji90]; first | rfl | (simp [ao_, an_] <;> rfl)) | (simp [*, ao_, an_] <;> rfl), bz HB.out⟩
           rw [if_pos c97] at H
           have c97b0 : ((t153.length : Int) == (wrap64 ((t144.length : Int) + 1))) = true := beq_iff_eq.mpr c97
           have c97b1 : ((t153.length : Int) != (wrap64 ((t144.length : Int) + 1))) = false := bne_eq_false_iff_eq.mpr c97
           clear c97
           replace H := Option.bind_eq_some_iff.mp H
           obtain ⟨t157, A980, H⟩ := H
           (try dsimp only at H)
           have A98 := Aside0.mk A980
           clear A980
           obtain rfl := Option.some.inj H
           obtain ⟨Ao99, co99, eo99⟩ := Kd.S_slice HO156.out
           subst eo99
           go_wp2_with (first | (go_at_call 34; (with_reducible refine (cr_.calls kj39 _ _ t153 t157 _ ?side1 ?side2 A98.out).mono ?_); (case side1 => exact cz (Kd.bK_ HO156.out).2.2); (case side2 => exact (Kd.bK_ HO156.out).2.1); rintro e w100 ⟨rfl, hb⟩; replace HO146 := Aside0.mk (Kd.cM_ (sz HO146.out) hb); replace HO156 := Aside0.mk (Kd.cM_ (sz HO156.out) hb); replace HB := Aside0.mk (ac_ (bz HB.out) hb); (try clear hb)))
           go_ret
           exact ⟨by first | rfl | (simp [ao_, an_] <;> rfl) | (simp only [← hji90]; first | rfl | (simp [ao_, an_] <;> rfl)) | (simp [*, ao_, an_] <;> rfl), bz HB.out⟩
          rw [if_pos c95] at H
          have c95b0 : decide ((ji90) < t149) = true := decide_eq_true c95
          clear c95
          (first | rw [c95b0] | (simp only [i64_w, i32_w]; rw [c95b0]) | (simp only [c95b1, Bool.not_true, Bool.not_false]) | (simp only [c95b0, Bool.not_true, Bool.not_false]) | skip)
          obtain rfl := Option.some.inj H
          go_wp2
          go_ret
          exact ⟨by first | rfl | (simp [ao_, an_] <;> rfl) | (simp only [← hji90]; first | rfl | (simp [ao_, an_] <;> rfl)) | (simp [*, ao_, an_] <;> rfl), bz HB.out⟩
         rw [if_pos c86] at H
         have c86b0 : decide (t149 < 0) = true := decide_eq_true c86
         clear c86
         obtain rfl := Option.some.inj H
         go_wp2_with (first | ((with_reducible refine ah_ (f := 32) rfl ?_); refine aN_ (some 169) rfl rfl Try.func32 (by kernel_rfl) rfl #[.slice A1 l1.length c1, .int .i64 0, .int .i64 (t144.length : Int)] rfl (by first | rfl | (simp only [lma_, lmc_, lmn_]; first | done | rfl)) ?_; (with_reducible refine (cq_.calls _ _ l1 0 (t144.length : Int) t147 _ ?side1 ?side2 A78.out).mono ?_); (case side1 => exact cz (Kd.bM_ HR1.out HB.out)); (case side2 => exact HC1.out); rintro e w' ⟨rfl, ⟨nd, rfl⟩⟩; refine ⟨_, rfl, ?_⟩; (try (rw [bL_ w75]; generalize hq_ : World.drewN w75 _ = w75; replace HO146 := Aside0.mk (rqS hq_ HO146.out); replace HB := Aside0.mk (rqH hq_ HB.out); clear hq_))) | ((with_reducible refine ah_ (f := 32) rfl ?_); refine aN_ (some 173) rfl rfl Try.func32 (by kernel_rfl) rfl #[.slice A1 l1.length c1, .int .i64 1, .int .i64 (t144.length : Int)] rfl (by first | rfl | (simp only [lma_, lmc_, lmn_]; first | done | rfl)) ?_; (with_reducible refine (cq_.calls _ _ l1 1 (t144.length : Int) t148 _ ?side1 ?side2 A79.out).mono ?_); (case side1 => exact cz (Kd.bM_ HR1.out HB.out)); (case side2 => exact HC1.out); rintro e w' ⟨rfl, ⟨nd, rfl⟩⟩; refine ⟨_, rfl, ?_⟩; (try (rw [bL_ w75]; generalize hq_ : World.drewN w75 _ = w75; replace HO146 := Aside0.mk (rqS hq_ HO146.out); replace HB := Aside0.mk (rqH hq_ HB.out); clear hq_))) | ((with_reducible refine ah_ (f := 33) rfl ?_); refine aN_ (some 179) rfl rfl Try.func33 (by kernel_rfl) rfl #[.slice Ao76 t144.length co76, .int .i64 (wrap64 (1 + t147)), .int .i64 (wrap64 (1 + t148))] rfl (by first | rfl | (simp only [lma_, lmc_, lmn_]; first | done | rfl)) ?_; (with_reducible refine (bf_.calls kj39 _ _ t144 (wrap64 (1 + t147)) (wrap64 (1 + t148)) t149 t150 _ ?side1 ?side2 A80.out).mono ?_); (case side1 => exact cz (Kd.bK_ HO146.out).2.2); (case side2 => exact (Kd.bK_ HO146.out).2.1); rintro e w87 ⟨rfl, hb⟩; refine ⟨_, rfl, ?_⟩; replace HO146 := Aside0.mk (Kd.cM_ (sz HO146.out) hb); replace HB := Aside0.mk (ac_ (bz HB.out) hb); (try clear hb)) | ((with_reducible refine ah_ (f := 33) rfl ?_); refine aN_ (some 186) rfl rfl Try.func33 (by kernel_rfl) rfl #[.slice Ao76 t144.length co76, .int .i64 (wrap64 (1 + t148)), .int .i64 (wrap64 (1 + t147))] rfl (by first | rfl | (simp only [lma_, lmc_, lmn_]; first | done | rfl)) ?_; (with_reducible refine (bf_.calls kj39 _ _ t144 (wrap64 (1 + t148)) (wrap64 (1 + t147)) t151 t152 _ ?side1 ?side2 A81.out).mono ?_); (case side1 => exact cz (Kd.bK_ HO146.out).2.2); (case side2 => exact (Kd.bK_ HO146.out).2.1); rintro e w88 ⟨rfl, hb⟩; refine ⟨_, rfl, ?_⟩; replace HO146 := Aside0.mk (Kd.cM_ (sz HO146.out) hb); replace HB := Aside0.mk (ac_ (bz HB.out) hb); (try clear hb)) | ((with_reducible refine ah_ (f := 22) rfl ?_); refine aN_ (some 193) rfl rfl Try.func22 (by kernel_rfl) rfl #[.slice Ao76 t144.length co76, .int .i64 (wrap64 (1 + t147)), .int .i64 (wrap64 (1 + t148)), .string (⟨#[98, 111, 116, 104]⟩ : ByteArray)] rfl (by first | rfl | (simp only [lma_, lmc_, lmn_]; first | done | rfl)) ?_; (with_reducible refine (aI_.calls kj39 _ _ t144 (wrap64 (1 + t147)) (wrap64 (1 + t148)) (⟨#[98, 111, 116, 104]⟩ : ByteArray) t153 t154 _ ?side1 ?side2 A82.out).mono ?_); (case side1 => exact cz (Kd.bK_ HO146.out).2.2); (case side2 => exact (Kd.bK_ HO146.out).2.1); rintro e w89 ⟨v155, rfl, ho0, hb⟩; refine ⟨_, rfl, ?_⟩; have HO156 := Aside0.mk (Kd.S_lower (Kd.S_new' ho0 (Kd.S_lt (sz HO146.out))) (ae_ (bz HB.out))); replace HO146 := Aside0.mk (Kd.S_elder' (sz HO146.out) (Kd.S_base ho0) hb); replace HB := Aside0.mk (ac_ (bz HB.out) hb); (try clear hb); (try clear ho0)))
         go_ret
         exact ⟨by first | rfl | (simp [*, ao_, an_] <;> rfl), bz HB.out⟩
        rw [if_pos c77] at H
        have c77b0 : ((t144.length : Int) == 0) = true := beq_iff_eq.mpr c77
        have c77b1 : ((t144.length : Int) != 0) = false := bne_eq_false_iff_eq.mpr c77
        clear c77
        (first | rw [c77b0] | (simp only [i64_w, i32_w]; rw [c77b0]) | (simp only [c77b1, Bool.not_true, Bool.not_false]) | (simp only [c77b0, Bool.not_true, Bool.not_false]) | skip)
        obtain rfl := Option.some.inj H
        go_wp2
        go_ret
        exact ⟨by first | rfl | (simp [*, ao_, an_] <;> rfl), bz HB.out⟩
       subst c72
       have H1 : (some false) = some r := by rw [if_pos rfl] at H; exact H
       clear H
       have H := H1
       clear H1
       obtain rfl := Option.some.inj H
       go_wp2
       go_ret
       exact ⟨by first | rfl | (simp [*, ao_, an_] <;> rfl), bz HB.out⟩
    subst c35
    have H1 : (some false) = some r := by rw [if_pos rfl] at H; exact H
    clear H
    have H := H1
    clear H1
    obtain rfl := Option.some.inj H
    go_wp2
    go_ret
    exact ⟨by first | rfl | (simp [*, ao_, an_] <;> rfl), bz HB.out⟩
 subst c5
 have H1 : (some true) = some r := by rw [if_pos rfl] at H; exact H
 clear H
 have H := H1
 clear H1
 obtain rfl := Option.some.inj H
 go_wp2
 go_ret
 exact ⟨by first | rfl | (simp [*, ao_, an_] <;> rfl), bz HB.out⟩
def ap_.Pure : Prop := ∀ (l0 : List Int) (l1 : List Int), l0.length ≤ maxLen → l0.length * 1 ≤ 140737488351232 → (∀ x ∈ l0, (Lit.int .u8 x).wf = true) → l1.length ≤ maxLen → l1.length * 1 ≤ 140737488351232 → (∀ x ∈ l1, (Lit.int .u8 x).wf = true) → ∃ k, ap_.f k l0 l1 = some true
theorem ap_.walk (P : ap_.Pure) (a0 : Option Addr) (len0 cap0 : Nat) (z0 : List Int) (a1 : Option Addr) (len1 cap1 : Nat) (z1 : List Int) (w : World) (w0 : (a0 = none ∧ len0 = 0 ∧ cap0 = 0 ∧ z0 = []) ∨ ∃ x, a0 = some x ∧ len0 ≤ cap0 ∧ cap0 ≤ maxLen ∧ z0.length = cap0 ∧ (∀ i, i < z0.length → w.cell? (x.add i) = some (.int .u8 (z0.getD i 0))) ∧ ∀ n ∈ z0, (Lit.int .u8 n).wf = true) (y0 : len0 * 1 ≤ 140737488351232) (w1 : (a1 = none ∧ len1 = 0 ∧ cap1 = 0 ∧ z1 = []) ∨ ∃ x, a1 = some x ∧ len1 ≤ cap1 ∧ cap1 ≤ maxLen ∧ z1.length = cap1 ∧ (∀ i, i < z1.length → w.cell? (x.add i) = some (.int .u8 (z1.getD i 0))) ∧ ∀ n ∈ z1, (Lit.int .u8 n).wf = true) (y1 : len1 * 1 ≤ 140737488351232) :
  Calls Try.prog 6 #[.slice a0 len0 cap0, .slice a1 len1 cap1] w fun e w' => e = .returned (.bool true) ∧ Below w.heap.size w w' := by
 obtain ⟨l0, rfl, hr0, hm0, hw0, hc0⟩ := ct_.ofRowC w0
 obtain ⟨l1, rfl, hr1, hm1, hw1, hc1⟩ := ct_.ofRowC w1
 obtain ⟨k, h⟩ := P l0 l1 hm0 y0 hw0 hm1 y1 hw1
 refine (ap_.calls k _ _ l0 _ _ l1 true w (Kd.C_of_reads (d := (0 : Int)) (h1 := fun _ => rfl) hr0) hc0 (Kd.C_of_reads (d := (0 : Int)) (h1 := fun _ => rfl) hr1) hc1 h).mono ?_
 rintro e w' ⟨rfl, hd⟩
 exact ⟨rfl, hd⟩
def bH_.l0 : Nat → List (S78) → List (S78) → Int → Option ((List (S78)))
 | 0, _, _, _ => none
 | k + 1, x0, x3, x4 => if x4 < (x0.length : Int) then (if 0 ≤ x4 then ((some (([] : List (S63)) : List (S63))).bind fun y106 => (if y106.length + ((ar_ x0 x4).f3).length < 2932031007402 then (if x3.length < 2513169434916 then (bH_.l0 k x0 (x3 ++ [(⟨(ar_ x0 x4).f0, (ar_ x0 x4).f1, (ar_ x0 x4).f2, (y106 ++ ((ar_ x0 x4).f3))⟩ : S78)]) (wrap64 (x4 + 1))) else (none)) else (none))) else (none)) else (some x3)
def bH_.f (k : Nat) (l0 : List (S78)) : Option ((List (S78))) := bH_.l0 k l0 (([] : List (S78))) 0
set_option maxHeartbeats 8000000 in
set_option maxRecDepth 100000 in
theorem bH_.calls (k : Nat) (A0 : Option Addr) (c0 : Nat) (l0 : List (S78)) (r : List (S78)) (w : World) (hr0 : Kd.C k78 w A0 l0.length l0) (hc0 : l0.length ≤ c0) (h : bH_.f k l0 = some r) :
  Calls Try.prog 77 #[.slice A0 l0.length c0] w fun e w' => ∃ v0_ : Value, e = .returned (v0_) ∧ Kd.S k78 78 w' w.heap.size (fun _ => True) v0_ r ∧ Below w.heap.size w w' := by
 have hu78 := Try.underlying78
 have HR0 := Aside0.mk hr0
 have HC0 := Aside0.mk hc0
 clear hr0 hc0
 have HB := Aside0.mk (Below.refl w.heap.size w)
 have H : (bH_.l0 k l0 (([] : List (S78))) 0) = some r := h
 clear h
 obtain ⟨y101, hy101⟩ : ∃ y_ : List (S78), y_ = (([] : List (S78))) := ⟨_, rfl⟩
 replace H : (bH_.l0 k l0 y101 0) = some r := by first | (rw [hy101]; with_reducible exact H) | (have H2_ := (Option.bind_some _ _).symm.trans H; rw [hy101]; with_reducible exact H2_) | (have H2_ := (Option.bind_some _ _).symm.trans H; with_reducible exact H2_) | with_reducible exact H | (rw [hy101]; exact H) | exact H
 have Ny101 := Aside0.mk hy101
 clear hy101
 have H' := Aside0.mk H
 clear H
 go_enter Try.func77, Try.ntmps77
 go_wp2_with (first | ((with_reducible refine aH_ (N := 6) rfl ?_); refine Kd.S_lit k78 _ 78 ?hg (N := 6) ?hd (xs := ([] : List (S78))) (inner := []) (ok := fun _ => True) (okp := fun _ => True) ?hr ?hp (fun _ hk => hk) trivial (Below.refl _ _) (Nat.le_refl _) (by simp) ?_; (case hd => rfl); (case hg => rfl); (case hr => (go_simp; try rfl)); (case hp => exact (Reps.none _ _)); intro v102 w2 ho3 hb hg_ hnew_; clear hg_ hnew_; (first | rw [← Ny101.out] at ho3 | (simp only [Int.reduceToNat] at ho3; rw [← Ny101.out] at ho3)); have HO103 := Aside0.mk (Kd.S_lower ho3 (ae_ (bz HB.out))); replace HB := Aside0.mk (ac_ (bz HB.out) hb); clear hb ho3))
 (try simp only [Act.put, lsa_, ls0_, ls1_])
 go_loopg [3, 4] k (fun kq v3 v4 w' => ∃ (x3_1 : List (S78)) (x4_1 : Int), v4 = .int .i64 x4_1 ∧ Aside0 (bH_.l0 kq l0 x3_1 x4_1 = some r) ∧ Aside0 (kq ≤ k) ∧ Aside0 (Kd.S k78 78 w' w.heap.size (fun _ => True) v3 x3_1) ∧ Aside0 (Below w.heap.size w w'))
 case atStart => exact ⟨(y101), (0), (by first | rfl | (simp; done) | (simp [*]; done)), H', ⟨Nat.le_refl _⟩, ⟨sz HO103.out⟩, ⟨bz HB.out⟩⟩
 case round =>
  clear H'
  obtain ⟨x3_1, x4_1, rfl, HA, HK1, HO_3, HB⟩ := hrel
  cases gk with
  | zero => exact absurd HA.out (by simp [bH_.l0])
  | succ k1 =>
   have H := HA.out
   clear HA
   simp only [bH_.l0] at H
   by_cases c4 : x4_1 < (l0.length : Int)
   rotate_left
   ·rw [if_neg c4] at H
    have c4b0 : decide (x4_1 < (l0.length : Int)) = false := decide_eq_false c4
    clear c4
    obtain rfl := Option.some.inj H
    go_wp2
    go_ret
    exact ⟨_, by first | rfl | (simp [*, ao_, an_] <;> rfl), sz HO_3.out, bz HB.out⟩
   rw [if_pos c4] at H
   have c4b0 : decide (x4_1 < (l0.length : Int)) = true := decide_eq_true c4
   clear c4
   by_cases c5 : 0 ≤ x4_1
   rotate_left
   ·rw [if_neg c5] at H
    exact absurd H (by simp)
   rw [if_pos c5] at H
   have c5b0 : decide (0 ≤ x4_1) = true := decide_eq_true c5
   clear c5
   obtain ⟨y106, hy106⟩ : ∃ y_ : List (S63), y_ = (([] : List (S63))) := ⟨_, rfl⟩
   replace H : (if y106.length + ((ar_ l0 x4_1).f3).length < 2932031007402 then (if x3_1.length < 2513169434916 then (bH_.l0 k1 l0 (x3_1 ++ [(⟨(ar_ l0 x4_1).f0, (ar_ l0 x4_1).f1, (ar_ l0 x4_1).f2, (y106 ++ ((ar_ l0 x4_1).f3))⟩ : S78)]) (wrap64 (x4_1 + 1))) else (none)) else (none)) = some r := by first | (rw [hy106]; with_reducible exact H) | (have H2_ := (Option.bind_some _ _).symm.trans H; rw [hy106]; with_reducible exact H2_) | (have H2_ := (Option.bind_some _ _).symm.trans H; with_reducible exact H2_) | with_reducible exact H | (rw [hy106]; exact H) | exact H
   have Ny106 := Aside0.mk hy106
   clear hy106
   by_cases c6 : y106.length + ((ar_ l0 x4_1).f3).length < 2932031007402
   rotate_left
   ·rw [if_neg c6] at H
    exact absurd H (by simp)
   rw [if_pos c6] at H
   have LMc6 := Aside0.mk c6
   clear c6
   obtain ⟨y109, hy109⟩ : ∃ y_ : List (S63), y_ = (y106 ++ ((ar_ l0 x4_1).f3)) := ⟨_, rfl⟩
   replace H : (if x3_1.length < 2513169434916 then (bH_.l0 k1 l0 (x3_1 ++ [(⟨(ar_ l0 x4_1).f0, (ar_ l0 x4_1).f1, (ar_ l0 x4_1).f2, y109⟩ : S78)]) (wrap64 (x4_1 + 1))) else (none)) = some r := by first | (rw [hy109]; with_reducible exact H) | (have H2_ := (Option.bind_some _ _).symm.trans H; rw [hy109]; with_reducible exact H2_) | (have H2_ := (Option.bind_some _ _).symm.trans H; with_reducible exact H2_) | with_reducible exact H | (rw [hy109]; exact H) | exact H
   have Ny109 := Aside0.mk hy109
   clear hy109
   by_cases c7 : x3_1.length < 2513169434916
   rotate_left
   ·rw [if_neg c7] at H
    exact absurd H (by simp)
   rw [if_pos c7] at H
   have LMc7 := Aside0.mk c7
   clear c7
   obtain ⟨y112, hy112⟩ : ∃ y_ : List (S78), y_ = (x3_1 ++ [(⟨(ar_ l0 x4_1).f0, (ar_ l0 x4_1).f1, (ar_ l0 x4_1).f2, y109⟩ : S78)]) := ⟨_, rfl⟩
   replace H : (bH_.l0 k1 l0 y112 (wrap64 (x4_1 + 1))) = some r := by first | (rw [hy112]; with_reducible exact H) | (have H2_ := (Option.bind_some _ _).symm.trans H; rw [hy112]; with_reducible exact H2_) | (have H2_ := (Option.bind_some _ _).symm.trans H; with_reducible exact H2_) | with_reducible exact H | (rw [hy112]; exact H) | exact H
   have Ny112 := Aside0.mk hy112
   clear hy112
   have H' := Aside0.mk H
   clear H
   have p104 : 0 ≤ (x4_1 : Int) := of_decide_eq_true (by assumption)
   have q104 : x4_1 < (l0.length : Int) := of_decide_eq_true (by assumption)
   obtain ⟨ad104, A104_3, c104_3, e104, hx104_0, hx104_1, hx104_2, hx104_3, hl104_3, hi104_3⟩ := dp_ HR0.out x4_1 p104 q104
   cases e104
   replace hx104_0 := bu_ HB.out hx104_0
   replace hx104_1 := bu_ HB.out hx104_1
   replace hx104_2 := bu_ HB.out hx104_2
   replace hx104_3 := bu_ HB.out hx104_3
   have HR104_3 := Aside0.mk hi104_3
   have HC104_3 := Aside0.mk hl104_3
   clear hi104_3 hl104_3
   replace p104 := eq_true p104
   replace q104 := eq_true q104
   go_wp2_with (first | ((with_reducible refine aH_ (N := 5) rfl ?_); refine by_ ?hg (N := 5) ?hd (cs := #[.int .i64 0, .int .i64 0, .string (⟨#[]⟩ : ByteArray), .slice none 0 0]) (t := 78) ?hr ?_; (case hd => rfl); (case hg => rfl); (case hr => (go_simp; try rfl)); intro gb105 hg w8 hbox hb; replace HO_3 := Aside0.mk (Kd.cM_ (Kd.S_elderB (sz HO_3.out) gb105 (Nat.le_of_eq hg.symm)) hb); have BK105 := Aside0.mk (hbox); have GW105 := Aside0.mk ((by rw [hg]; exact (ae_ (bz HB.out)) : w.heap.size ≤ gb105)); have GE105 := GW105; replace HB := Aside0.mk (ac_ (bz HB.out) hb); clear hb hbox hg; obtain ⟨hcz9_0, hcz9_1, hcz9_2, hcz9_3⟩ := cz4_ BK105.out; obtain ⟨hfz9_0, hfz9_1, hfz9_2, hfz9_3⟩ := fz4_ BK105.out) | ((with_reducible refine aH_ (N := 17) rfl ?_); refine Kd.R_lit k63 _ 63 ?hg (N := 17) ?hd (xs := ([] : List (S63))) (inner := []) (ok := fun _ => True) (okp := fun _ => True) ?hr ?hp (fun _ hk => hk) trivial (Below.refl _ _) (Nat.le_refl _) (by simp) ?_; (case hd => rfl); (case hg => rfl); (case hr => (go_simp; try rfl)); (case hp => exact (Reps.none _ _)); intro v107 w10 ho11 hb hg_ hnew_; clear hg_ hnew_; (first | rw [← Ny106.out] at ho11 | (simp only [Int.reduceToNat] at ho11; rw [← Ny106.out] at ho11)); replace HO_3 := Aside0.mk (Kd.S_elder' (sz (Kd.cl_ (Kd.S_far (p := ⟨gb105, 3, none⟩) (Kd.S_far (p := ⟨gb105, 2, none⟩) (Kd.S_far (p := ⟨gb105, 1, none⟩) (Kd.S_far (p := ⟨gb105, 0, none⟩) (Kd.cl_ HO_3.out (fun k_ hk => (⟨hk, hk.2⟩ : _ ∧ k_ ≠ gb105))) (fun _ hk => hk.2) (.int .i64 ((ar_ l0 x4_1).f0))) (fun _ hk => hk.2) (.int .i64 ((ar_ l0 x4_1).f1))) (fun _ hk => hk.2) (.string ((ar_ l0 x4_1).f2))) (fun _ hk => hk.2) (.slice A104_3 ((ar_ l0 x4_1).f3).length c104_3)) (fun _ h_ => h_.1))) (Kd.aZ_ ho11) hb); have HO108 := Aside0.mk (Kd.bt_ ho11 (ae_ (bq))); replace BK105 := Aside0.mk (bb_ (g := gb105) (o := .cells #[.int .i64 ((ar_ l0 x4_1).f0), .int .i64 ((ar_ l0 x4_1).f1), .string ((ar_ l0 x4_1).f2), .slice A104_3 ((ar_ l0 x4_1).f3).length c104_3] 78 (0, 0)) (by exact kj4_3 (kj4_2 (kj4_1 (kj4_0 (kz BK105.out))))) hb); replace HB := Aside0.mk (ac_ (bq) hb); clear hb ho11; obtain ⟨hcz12_0, hcz12_1, hcz12_2, hcz12_3⟩ := cz4_ BK105.out; obtain ⟨hfz12_0, hfz12_1, hfz12_2, hfz12_3⟩ := fz4_ BK105.out) | ((with_reducible refine be_ (b := .append) (xs := #[.tmp 17, .tmp 19]) rfl ?_); at_builtin; refine Kd.cE_ k63 (w0 := w) w.heap.size rfl (.tmp 17) (.tmp 19) 27 63 (.agg #[(.string ⟨#[]⟩), (.string ⟨#[]⟩), (.int .i64 0), (.int .i64 0)]) 48 rfl Try.underlying27 cW_ rfl (by decide) (by omega) v107 y106 ((ar_ l0 x4_1).f3) _ _ _ (fun _ => True) (fun _ => False) rfl rfl ?aO ?aR (fun _ _ h => h) (fun _ h => h.elim) ?aF ?aB ?aS ?aL ?_; (case aR => exact cz (Kd.bM_ HR104_3.out HB.out)); (case aB => exact (bq)); (case aF => exact (fun _ _ => trivial)); (case aO => exact (rz HO108.out)); (case aS => exact (ae_ (bq))); (case aL => have := LMc6.out; omega); intro v110 w13 ho hb hg hat; rw [← Ny109.out] at ho; replace HO_3 := Aside0.mk (Kd.S_after (ok := (fun k_ => k_ ≠ gb105)) (sz (Kd.cl_ HO_3.out (fun _ hk => ⟨hk.1.2, hk.2⟩))) hg hat); replace BK105 := Aside0.mk (bS_ (g := gb105) (o := .cells #[.int .i64 ((ar_ l0 x4_1).f0), .int .i64 ((ar_ l0 x4_1).f1), .string ((ar_ l0 x4_1).f2), .slice A104_3 ((ar_ l0 x4_1).f3).length c104_3] 78 (0, 0)) (kz BK105.out) hg (Kd.R_ne HO108.out BK105.out (by decide))); replace HB := Aside0.mk (hb); have HO111 := Aside0.mk (ho); clear HO108; clear ho hb hg hat; obtain ⟨Ao14, co14, eo14⟩ := Kd.bn_ HO111.out; subst eo14; obtain ⟨hcz15_0, hcz15_1, hcz15_2, hcz15_3⟩ := cz4_ BK105.out; obtain ⟨hfz15_0, hfz15_1, hfz15_2, hfz15_3⟩ := fz4_ BK105.out) | ((with_reducible refine gate_store (t := 27) (p := 21) rfl ?_); refine store_event (t := 27) (p := 21) (v := ?vo_w16) (w1 := (w13.setCell ⟨gb105, 3, none⟩ (.slice Ao14 y109.length co14))) ?hg ?ho ?hn ?hr ?_; (case ho => rfl); (case hg => rfl); (case hn => rfl); (case hr => (go_simp; try rfl)); intro w16 hw; replace HO_3 : Aside0 (Kd.S k78 78 w16 w.heap.size (fun k_ => some k_ ≠ (.slice Ao14 y109.length co14 : Value).ownBlock ∧ k_ ≠ gb105) u3 x3_1) := ⟨(by rw [hw]; exact (sz (Kd.cl_ (Kd.S_far (p := ⟨gb105, 3, none⟩) (Kd.cl_ HO_3.out (fun k_ hk => (⟨hk, hk.1⟩ : _ ∧ k_ ≠ gb105))) (fun _ hk => hk.2) (.slice Ao14 y109.length co14)) (fun _ hk => ⟨hk.1.2, hk.1.1⟩))))⟩; replace HO111 : Aside0 (Kd.R k63 63 w16 w.heap.size (fun _ => True) (.slice Ao14 y109.length co14) y109) := ⟨(by rw [hw]; exact (rz (Kd.aB_ (Kd.R_far (p := ⟨gb105, 3, none⟩) (Kd.bs_ HO111.out BK105.out (by decide)) (fun _ hk => hk.2) (.slice Ao14 y109.length co14)) (fun _ hk => trivial))))⟩; replace BK105 : Aside0 (w16.heap[gb105]? = some (.cells #[.int .i64 ((ar_ l0 x4_1).f0), .int .i64 ((ar_ l0 x4_1).f1), .string ((ar_ l0 x4_1).f2), .slice Ao14 y109.length co14] 78 (0, 0))) := ⟨(by rw [hw]; exact (by exact kj4_3 (kz BK105.out)))⟩; replace HB : Aside0 (Below w.heap.size w w16) := ⟨(by rw [hw]; exact (bq))⟩; clear hw; obtain ⟨hcz17_0, hcz17_1, hcz17_2, hcz17_3⟩ := cz4_ BK105.out; obtain ⟨hfz17_0, hfz17_1, hfz17_2, hfz17_3⟩ := fz4_ BK105.out) | ((with_reducible refine be_ (b := .append) (xs := #[.tmp 22, .tmp 24]) rfl ?_); at_builtin; refine Kd.S_append k78 (w0 := w) w.heap.size rfl (.tmp 22) (.tmp 24) 38 78 (.agg #[(.int .i64 0), (.int .i64 0), (.string ⟨#[]⟩), (.slice none 0 0)]) 56 rfl Try.underlying38 info78 rfl (by decide) (by omega) u3 x3_1 (⟨(ar_ l0 x4_1).f0, (ar_ l0 x4_1).f1, (ar_ l0 x4_1).f2, y109⟩ : S78) [.int .i64 ((ar_ l0 x4_1).f0), .int .i64 ((ar_ l0 x4_1).f1), .string ((ar_ l0 x4_1).f2), .slice Ao14 y109.length co14] (fun k_ => k_ ≠ gb105) (fun k_ => some k_ = (.slice Ao14 y109.length co14 : Value).ownBlock) rfl rfl ?aP (fun k_ hk_ => ((Kd.aB_ (ok' := fun k_ => ((fun k_ => k_ ≠ gb105)) k_ ∧ some k_ ≠ (u3 : Value).ownBlock) (Kd.bs_ (Kd.cn_ (HO111.out) (Kd.S_typed HO_3.out) (by decide)) BK105.out (by decide)) (fun k_ hk => ⟨hk.2, hk.1.2⟩))).1 k_ hk_.symm) ?aF ?aO ?aB ?aS ?aL ?_; (case aP => exact k78_mkM _ _ _ (⟨(ar_ l0 x4_1).f0, (ar_ l0 x4_1).f1, (ar_ l0 x4_1).f2, y109⟩ : S78) (Kd.aB_ (Kd.cD_ rfl (Kd.aB_ (ok' := fun k_ => ((fun k_ => k_ ≠ gb105)) k_ ∧ some k_ ≠ (u3 : Value).ownBlock) (Kd.bs_ (Kd.cn_ (HO111.out) (Kd.S_typed HO_3.out) (by decide)) BK105.out (by decide)) (fun k_ hk => ⟨hk.2, hk.1.2⟩))) (fun _ h_ => h_))); (case aB => exact (bq)); (case aF => exact (fun k_ hk => Kd.cV_ (g := gb105) (o := .cells #[.int .i64 ((ar_ l0 x4_1).f0), .int .i64 ((ar_ l0 x4_1).f1), .string ((ar_ l0 x4_1).f2), .slice Ao14 y109.length co14] 78 (0, 0)) (kz BK105.out) k_ hk)); (case aO => exact (sz (Kd.cl_ HO_3.out (fun k_ hk => ⟨hk.2, fun e_ => hk.1 e_⟩)))); (case aS => exact (ae_ (bq))); (case aL => have := LMc7.out; omega); intro v113 w18 ho hb hg hat; rw [← Ny112.out] at ho; replace BK105 := Aside0.mk (bS_ (g := gb105) (o := .cells #[.int .i64 ((ar_ l0 x4_1).f0), .int .i64 ((ar_ l0 x4_1).f1), .string ((ar_ l0 x4_1).f2), .slice Ao14 y109.length co14] 78 (0, 0)) (kz BK105.out) hg (Kd.S_away HO_3.out (fun _ hk => hk.2))); replace HB := Aside0.mk (hb); have HO114 := Aside0.mk (ho); clear HO_3; clear HO111; clear ho hb hg hat))
   go_roundg k1
   case measure => have := HK1.out; omega
   case rel => exact ⟨(y112), (wrap64 (x4_1 + 1)), (by first | rfl | (simp; done) | (simp [*]; done)), H', ⟨by have := HK1.out; omega⟩, ⟨sz (Kd.cl_ HO114.out (fun _ hk => trivial))⟩, ⟨bq⟩⟩
def df_.f (k : Nat) (l0 : List (S78)) (a1 : Int) (a2 : ByteArray) (l3 : List (S63)) : Option ((List (S78)) × Int) := if (l0.length : Int) = 16 then (some (([] : List (S78)), 5)) else ((some (([] : List (S63)) : List (S63))).bind fun y101 => (if y101.length + l3.length < 2932031007402 then ((bH_.f k l0).bind fun t108 => ((some (([(⟨wrap64 ((l0.length : Int) + 1), a1, a2, (y101 ++ l3)⟩ : S78)] : List (S78)) : List (S78))).bind fun y111 => (if t108.length + y111.length < 2513169434916 then (some ((t108 ++ y111), 0)) else (none)))) else (none)))
set_option maxHeartbeats 8000000 in
set_option maxRecDepth 100000 in
theorem df_.calls (k : Nat) (A0 : Option Addr) (c0 : Nat) (l0 : List (S78)) (a1 : Int) (a2 : ByteArray) (A3 : Option Addr) (c3 : Nat) (l3 : List (S63)) (r1 : List (S78)) (r2 : Int) (w : World) (hr0 : Kd.C k78 w A0 l0.length l0) (hc0 : l0.length ≤ c0) (hr3 : Kd.C k63 w A3 l3.length l3) (hc3 : l3.length ≤ c3) (h : df_.f k l0 a1 a2 l3 = some (r1, r2)) :
  Calls Try.prog 51 #[.slice A0 l0.length c0, .int .i64 a1, .string a2, .slice A3 l3.length c3] w fun e w' => ∃ v0_ : Value, e = .returned (.tuple #[v0_, .int .i64 r2]) ∧ Kd.N k78 78 w' w.heap.size (fun k_ => (w.heap.size ≤ k_)) v0_ r1 ∧ Below w.heap.size w w' := by
 have hu78 := Try.underlying78
 have HR0 := Aside0.mk hr0
 have HC0 := Aside0.mk hc0
 clear hr0 hc0
 have HR3 := Aside0.mk hr3
 have HC3 := Aside0.mk hc3
 clear hr3 hc3
 have HB := Aside0.mk (Below.refl w.heap.size w)
 have H : (if (l0.length : Int) = 16 then (some (([] : List (S78)), 5)) else ((some (([] : List (S63)) : List (S63))).bind fun y101 => (if y101.length + l3.length < 2932031007402 then ((bH_.f k l0).bind fun t108 => ((some (([(⟨wrap64 ((l0.length : Int) + 1), a1, a2, (y101 ++ l3)⟩ : S78)] : List (S78)) : List (S78))).bind fun y111 => (if t108.length + y111.length < 2513169434916 then (some ((t108 ++ y111), 0)) else (none)))) else (none)))) = some (r1, r2) := h
 clear h
 by_cases c5 : (l0.length : Int) = 16
 rotate_left
 ·rw [if_neg c5] at H
  have c5b0 : ((l0.length : Int) == 16) = false := beq_eq_false_iff_ne.mpr c5
  have c5b1 : ((l0.length : Int) != 16) = true := bne_iff_ne.mpr c5
  obtain ⟨y101, hy101⟩ : ∃ y_ : List (S63), y_ = (([] : List (S63))) := ⟨_, rfl⟩
  replace H : (if y101.length + l3.length < 2932031007402 then ((bH_.f k l0).bind fun t108 => ((some (([(⟨wrap64 ((l0.length : Int) + 1), a1, a2, (y101 ++ l3)⟩ : S78)] : List (S78)) : List (S78))).bind fun y111 => (if t108.length + y111.length < 2513169434916 then (some ((t108 ++ y111), 0)) else (none)))) else (none)) = some (r1, r2) := by first | (rw [hy101]; with_reducible exact H) | (have H2_ := (Option.bind_some _ _).symm.trans H; rw [hy101]; with_reducible exact H2_) | (have H2_ := (Option.bind_some _ _).symm.trans H; with_reducible exact H2_) | with_reducible exact H | (rw [hy101]; exact H) | exact H
  have Ny101 := Aside0.mk hy101
  clear hy101
  by_cases c6 : y101.length + l3.length < 2932031007402
  rotate_left
  ·rw [if_neg c6] at H
   exact absurd H (by simp)
  rw [if_pos c6] at H
  have LMc6 := Aside0.mk c6
  clear c6
  obtain ⟨y104, hy104⟩ : ∃ y_ : List (S63), y_ = (y101 ++ l3) := ⟨_, rfl⟩
  replace H : ((bH_.f k l0).bind fun t108 => ((some (([(⟨wrap64 ((l0.length : Int) + 1), a1, a2, y104⟩ : S78)] : List (S78)) : List (S78))).bind fun y111 => (if t108.length + y111.length < 2513169434916 then (some ((t108 ++ y111), 0)) else (none)))) = some (r1, r2) := by first | (rw [hy104]; with_reducible exact H) | (have H2_ := (Option.bind_some _ _).symm.trans H; rw [hy104]; with_reducible exact H2_) | (have H2_ := (Option.bind_some _ _).symm.trans H; with_reducible exact H2_) | with_reducible exact H | (rw [hy104]; exact H) | exact H
  have Ny104 := Aside0.mk hy104
  clear hy104
  replace H := Option.bind_eq_some_iff.mp H
  obtain ⟨t108, A70, H⟩ := H
  (try dsimp only at H)
  have A7 := Aside0.mk A70
  clear A70
  obtain ⟨y111, hy111⟩ : ∃ y_ : List (S78), y_ = (([(⟨wrap64 ((l0.length : Int) + 1), a1, a2, y104⟩ : S78)] : List (S78))) := ⟨_, rfl⟩
  replace H : (if t108.length + y111.length < 2513169434916 then (some ((t108 ++ y111), 0)) else (none)) = some (r1, r2) := by first | (rw [hy111]; with_reducible exact H) | (have H2_ := (Option.bind_some _ _).symm.trans H; rw [hy111]; with_reducible exact H2_) | (have H2_ := (Option.bind_some _ _).symm.trans H; with_reducible exact H2_) | with_reducible exact H | (rw [hy111]; exact H) | exact H
  have Ny111 := Aside0.mk hy111
  clear hy111
  by_cases c8 : t108.length + y111.length < 2513169434916
  rotate_left
  ·rw [if_neg c8] at H
   exact absurd H (by simp)
  rw [if_pos c8] at H
  have LMc8 := Aside0.mk c8
  clear c8
  obtain ⟨y114, hy114⟩ : ∃ y_ : List (S78), y_ = (t108 ++ y111) := ⟨_, rfl⟩
  replace H : (some (y114, 0)) = some (r1, r2) := by first | (rw [hy114]; with_reducible exact H) | (have H2_ := (Option.bind_some _ _).symm.trans H; rw [hy114]; with_reducible exact H2_) | (have H2_ := (Option.bind_some _ _).symm.trans H; with_reducible exact H2_) | with_reducible exact H | (rw [hy114]; exact H) | exact H
  have Ny114 := Aside0.mk hy114
  clear hy114
  simp only [Option.some.injEq, Prod.mk.injEq] at H
  obtain ⟨rfl, rfl⟩ := H
  go_enter Try.func51, Try.ntmps51
  try go_wp2_with (first | ((with_reducible refine aH_ (N := 19) rfl ?_); refine Kd.R_lit k63 _ 63 ?hg (N := 19) ?hd (xs := ([] : List (S63))) (inner := []) (ok := fun _ => True) (okp := fun _ => True) ?hr ?hp (fun _ hk => hk) trivial (Below.refl _ _) (Nat.le_refl _) (by simp) ?_; (case hd => rfl); (case hg => rfl); (case hr => (go_simp; try rfl)); (case hp => exact (Reps.none _ _)); intro v102 w9 ho10 hb hg_ hnew_; clear hg_ hnew_; (first | rw [← Ny101.out] at ho10 | (simp only [Int.reduceToNat] at ho10; rw [← Ny101.out] at ho10)); have HO103 := Aside0.mk (Kd.bt_ (Kd.do_ (M := fun k_ => (w.heap.size ≤ k_)) ho10 (ae_ (bz HB.out)) (fun k_ h_ => h_)) (ae_ (bz HB.out))); replace HB := Aside0.mk (ac_ (bz HB.out) hb); clear hb ho10) | ((with_reducible refine be_ (b := .append) (xs := #[.tmp 19, .tmp 20]) rfl ?_); at_builtin; refine Kd.cE_ k63 (w0 := w) w.heap.size rfl (.tmp 19) (.tmp 20) 27 63 (.agg #[(.string ⟨#[]⟩), (.string ⟨#[]⟩), (.int .i64 0), (.int .i64 0)]) 48 rfl Try.underlying27 cW_ rfl (by decide) (by omega) v102 y101 l3 _ _ _ (fun k_ => (w.heap.size ≤ k_)) (fun _ => False) rfl rfl ?aO ?aR (fun _ _ h => h) (fun _ h => h.elim) ?aF ?aB ?aS ?aL ?_; (case aR => exact cz (Kd.bM_ HR3.out HB.out)); (case aB => exact (bz HB.out)); (case aF => exact (fun k_ hk => (Nat.le_trans (ae_ (bz HB.out)) hk))); (case aO => exact (rz (Kd.aB_ HO103.out (fun _ hk => hk.1)))); (case aS => exact (ae_ (bz HB.out))); (case aL => have := LMc6.out; omega); intro v105 w11 ho hb hg hat; rw [← Ny104.out] at ho; replace HB := Aside0.mk (hb); have HO106 := Aside0.mk (ho); clear HO103; clear ho hb hg hat; obtain ⟨Ao12, co12, eo12⟩ := Kd.bn_ HO106.out; subst eo12) | ((with_reducible refine aH_ (N := 10) rfl ?_); refine by_ ?hg (N := 10) ?hd (cs := #[.int .i64 0, .int .i64 0, .string (⟨#[]⟩ : ByteArray), .slice none 0 0]) (t := 78) ?hr ?_; (case hd => rfl); (case hg => rfl); (case hr => (go_simp; try rfl)); intro gb107 hg w13 hbox hb; replace HO106 := Aside0.mk (Kd.aT_ (rz HO106.out) hb); have BK107 := Aside0.mk (hbox); have GW107 := Aside0.mk ((by rw [hg]; exact (ae_ (bz HB.out)) : w.heap.size ≤ gb107)); have GE107 := GW107; replace HB := Aside0.mk (ac_ (bz HB.out) hb); clear hb hbox hg; obtain ⟨hcz14_0, hcz14_1, hcz14_2, hcz14_3⟩ := cz4_ BK107.out; obtain ⟨hfz14_0, hfz14_1, hfz14_2, hfz14_3⟩ := fz4_ BK107.out))
  have n0_ : Aside0 (Kd.R k63 63 ((((w13.setCell ⟨gb107, 0, none⟩ (.int .i64 (wrap64 ((l0.length : Int) + 1)))).setCell ⟨gb107, 1, none⟩ (.int .i64 a1)).setCell ⟨gb107, 2, none⟩ (.string a2)).setCell ⟨gb107, 3, none⟩ (.slice Ao12 y104.length co12)) w.heap.size (fun k_ => (w.heap.size ≤ k_)) (.slice Ao12 y104.length co12) y104) := ⟨rz (Kd.aB_ (Kd.R_far (p := ⟨gb107, 3, none⟩) (Kd.R_far (p := ⟨gb107, 2, none⟩) (Kd.R_far (p := ⟨gb107, 1, none⟩) (Kd.R_far (p := ⟨gb107, 0, none⟩) (Kd.bs_ HO106.out BK107.out (by decide)) (fun _ hk => hk.2) (.int .i64 (wrap64 ((l0.length : Int) + 1)))) (fun _ hk => hk.2) (.int .i64 a1)) (fun _ hk => hk.2) (.string a2)) (fun _ hk => hk.2) (.slice Ao12 y104.length co12)) (fun _ hk => hk.1))⟩
  have n1_ : Aside0 (((((w13.setCell ⟨gb107, 0, none⟩ (.int .i64 (wrap64 ((l0.length : Int) + 1)))).setCell ⟨gb107, 1, none⟩ (.int .i64 a1)).setCell ⟨gb107, 2, none⟩ (.string a2)).setCell ⟨gb107, 3, none⟩ (.slice Ao12 y104.length co12)).heap[gb107]? = some (.cells #[.int .i64 (wrap64 ((l0.length : Int) + 1)), .int .i64 a1, .string a2, .slice Ao12 y104.length co12] 78 (0, 0))) := ⟨by exact kj4_3 (kj4_2 (kj4_1 (kj4_0 (kz BK107.out))))⟩
  have n2_ : Aside0 (Below w.heap.size w ((((w13.setCell ⟨gb107, 0, none⟩ (.int .i64 (wrap64 ((l0.length : Int) + 1)))).setCell ⟨gb107, 1, none⟩ (.int .i64 a1)).setCell ⟨gb107, 2, none⟩ (.string a2)).setCell ⟨gb107, 3, none⟩ (.slice Ao12 y104.length co12))) := ⟨bq⟩
  (try clear HO106)
  (try clear BK107)
  (try clear HB)
  generalize ((((w13.setCell ⟨gb107, 0, none⟩ (.int .i64 (wrap64 ((l0.length : Int) + 1)))).setCell ⟨gb107, 1, none⟩ (.int .i64 a1)).setCell ⟨gb107, 2, none⟩ (.string a2)).setCell ⟨gb107, 3, none⟩ (.slice Ao12 y104.length co12)) = w15 at n0_ n1_ n2_ ⊢
  have HO106 := n0_
  have BK107 := n1_
  have HB := n2_
  clear n0_ n1_ n2_
  have n0_ := Aside0.mk (Kd.R_drew HO106.out)
  have n1_ := Aside0.mk (cP_ BK107.out)
  have n2_ := Aside0.mk (bD_ HB.out)
  clear HO106
  clear BK107
  clear HB
  have HO106 := n0_
  have BK107 := n1_
  have HB := n2_
  clear n0_ n1_ n2_
  refine start_ (n := 7) (S := fun w' => w'.cell? ⟨gb107, 0, none⟩ = some (.int .i64 (wrap64 ((l0.length : Int) + 1))) ∧ w'.cell? ⟨gb107, 1, none⟩ = some (.int .i64 a1) ∧ w'.cell? ⟨gb107, 2, none⟩ = some (.string a2) ∧ w'.cell? ⟨gb107, 3, none⟩ = some (.slice Ao12 y104.length co12)) (ds := []) #[f_,f_,f_,f_,f_,f_,f_] (by kernel_rfl) rfl rfl ⟨(aY_ BK107.out 0).trans rfl, (aY_ BK107.out 1).trans rfl, (aY_ BK107.out 2).trans rfl, (aY_ BK107.out 3).trans rfl⟩ (fun hHeld => ?_)
  generalize w15.drew = w16 at HO106 BK107 HB hHeld ⊢
  refine pure_ (i := 0) (N := some 23) (v := ?_) (a' := ?_) #[t_,f_,f_,f_,f_,f_,f_] rfl rfl (by kernel_rfl) (fun _ _ _ h => h) (Or.inl ⟨by rfl, ?_⟩) ?_ ?_
  rotate_left
  ·intro w'
   go_simp
   with_reducible rfl
  rotate_left
  ·simp only [Act.put, lsa_, ls0_, ls1_, i64_w, i32_w]
   rfl
  refine take_ (i := 2) (N := some 25) (v := ?_) (a' := ?_) #[t_,f_,t_,f_,f_,f_,f_] rfl rfl (by kernel_rfl) (fun _ _ _ h => h) (Or.inl ⟨by rfl, ?_⟩) hHeld ?_ ?_
  rotate_left
  ·rintro w' ⟨s0, s1, s2, s3⟩
   go_simp
   with_reducible rfl
  rotate_left
  ·simp only [Act.put, lsa_, ls0_, ls1_, i64_w, i32_w]
   rfl
  refine join_ (σ := Value × Value) 3 #[t_,t_,t_,t_,f_,f_,f_] (fun s_ => [(24, s_.1), (26, s_.2)]) (fun s_ w' => (w'.cell? ⟨gb107, 0, none⟩ = some (.int .i64 (wrap64 ((l0.length : Int) + 1))) ∧ w'.cell? ⟨gb107, 1, none⟩ = some (.int .i64 a1) ∧ w'.cell? ⟨gb107, 2, none⟩ = some (.string a2) ∧ w'.cell? ⟨gb107, 3, none⟩ = some (.slice Ao12 y104.length co12)) ∧ (Kd.N k78 78 w' w.heap.size (fun k_ => (w.heap.size ≤ k_) ∧ some k_ ≠ (s_.2 : Value).ownBlock ∧ k_ ≠ gb107) s_.1 t108) ∧ (Kd.N k78 78 w' w.heap.size (fun k_ => (w.heap.size ≤ k_) ∧ some k_ ≠ (s_.1 : Value).ownBlock ∧ k_ ≠ gb107) s_.2 y111) ∧ (w'.heap[gb107]? = some (.cells #[.int .i64 (wrap64 ((l0.length : Int) + 1)), .int .i64 a1, .string a2, .slice Ao12 y104.length co12] 78 (0, 0))) ∧ (Below w.heap.size w w')) ?_ ?_
  rotate_left
  ·intro hCont
   refine two_ (i := 1) (j := 3) (Ni := some 24) (Nj := some 26) #[t_,t_,t_,f_,f_,f_,f_] #[t_,f_,t_,t_,f_,f_,f_] rfl rfl rfl rfl (by kernel_rfl) (by decide) (by decide) (fun K hK => ?_) (fun K hK => ?_)
   ·skip
    (first | refine goes_ Try.func77 (by kernel_rfl) rfl #[.slice A0 l0.length c0] (by rfl) rfl rfl (by first | rfl | (simp only [lma_, lmc_, lmn_]; first | done | rfl)) ?_ | refine RPW.dc_ Try.func77 (by kernel_rfl) rfl #[.slice A0 l0.length c0] (by rfl) rfl rfl rfl (by first | rfl | (simp only [lma_, lmc_, lmn_]; first | done | rfl)) ?_ | refine RPW.dd_ Try.func77 (by kernel_rfl) rfl #[.slice A0 l0.length c0] (by rfl) rfl rfl rfl (by first | rfl | (simp only [lma_, lmc_, lmn_]; first | done | rfl)) ?_)
    with_reducible refine (bH_.calls k _ _ l0 t108 _ ?side1 ?side2 A7.out).mono ?_
    (case side1 => exact cz (Kd.bM_ HR0.out HB.out))
    (case side2 => exact HC0.out)
    rintro e w17 ⟨v109, rfl, ho0, hb⟩
    refine ⟨_, rfl, ?_⟩
    have n0_ := Aside0.mk (Kd.aT_ (rz HO106.out) hb)
    have n1_ := Aside0.mk (Kd.ds_ (Kd.co_ (ok' := fun k_ => (w.heap.size ≤ k_) ∧ some k_ ≠ (.slice Ao12 y104.length co12 : Value).ownBlock ∧ k_ ≠ gb107) (Kd.S_N (Kd.S_bound ho0)) (fun k_ hk_ => ⟨(Nat.le_trans (ae_ (bq)) hk_.2.1), (Kd.fresh' (Kd.R_lt (rz HO106.out)) k_ hk_.2.1), (Kd.cV_ (g := gb107) (o := .cells #[.int .i64 (wrap64 ((l0.length : Int) + 1)), .int .i64 a1, .string a2, .slice Ao12 y104.length co12] 78 (0, 0)) (kz BK107.out) k_ hk_.2.1)⟩)) (ae_ (bq)))
    have n2_ := Aside0.mk (bb_ (kz BK107.out) hb)
    have n3_ := Aside0.mk (ac_ (bq) hb)
    clear HO106
    clear BK107
    clear HB
    have HO106 := n0_
    have HO110 := n1_
    have BK107 := n2_
    have HB := n3_
    clear n0_ n1_ n2_ n3_
    (try clear hb)
    (try clear ho0)
    refine hK.out _ _ ⟨(aY_ BK107.out 0).trans rfl, (aY_ BK107.out 1).trans rfl, (aY_ BK107.out 2).trans rfl, (aY_ BK107.out 3).trans rfl⟩ (fun hHeld => ?_)
    clear hK K
    refine norm_ (a' := ?_) ?_ ?_
    rotate_left
    ·show Act.put _ (some 24) _ = _
     simp only [Act.put, lsa_, ls0_, ls1_, i64_w, i32_w]
     rfl
    refine one_ (i := 3) (N := some 26) #[t_,t_,t_,t_,f_,f_,f_] rfl rfl (by kernel_rfl) (by decide) (fun K hK => ?_)
    refine Kd.N_lit_step k78 _ 78 ?hg (N' := 26) ?hd (xs := ([(⟨wrap64 ((l0.length : Int) + 1), a1, a2, y104⟩ : S78)] : List (S78))) (inner := [.int .i64 (wrap64 ((l0.length : Int) + 1)), .int .i64 a1, .string a2, .slice Ao12 y104.length co12]) (ok := (fun k_ => (w.heap.size ≤ k_) ∧ some k_ ≠ (v109 : Value).ownBlock ∧ k_ ≠ gb107)) (okp := (fun k_ => (w.heap.size ≤ k_) ∧ some k_ ≠ (v109 : Value).ownBlock ∧ k_ ≠ gb107)) ?hr ?hp (fun _ hk => hk) ((show ∀ k_, w17.heap.size ≤ k_ → (fun k_ => (w.heap.size ≤ k_) ∧ some k_ ≠ (v109 : Value).ownBlock ∧ k_ ≠ gb107) k_ from fun k_ hk => ⟨(Nat.le_trans (ae_ (bq)) hk), Kd.fresh' (Kd.N_lt (nz HO110.out)) k_ hk, Kd.cV_ (g := gb107) (o := .cells #[.int .i64 (wrap64 ((l0.length : Int) + 1)), .int .i64 a1, .string a2, .slice Ao12 y104.length co12] 78 (0, 0)) (kz BK107.out) k_ hk⟩) _ (Nat.le_refl _)) (Below.refl _ _) (Nat.le_refl _) (by simp) ?_; (case hd => rfl); (case hg => rfl); (case hr => (go_simp; try rfl)); (case hp => exact (Reps.c4 (show Kd.FK k78 _ _ (⟨wrap64 ((l0.length : Int) + 1), a1, a2, y104⟩ : S78) [.int .i64 (wrap64 ((l0.length : Int) + 1)), .int .i64 a1, .string a2, .slice Ao12 y104.length co12] from (k78_mkF _ _ (⟨wrap64 ((l0.length : Int) + 1), a1, a2, y104⟩ : S78) (Kd.as_ (Kd.aB_ (ok' := (fun k_ => (w.heap.size ≤ k_) ∧ some k_ ≠ (v109 : Value).ownBlock ∧ k_ ≠ gb107)) (Kd.bs_ (Kd.cn_ (HO106.out) (Kd.N_typed HO110.out) (by decide)) BK107.out (by decide)) (fun k_ hk => ⟨hk.1.1, ⟨hk.1.2, hk.2⟩⟩))).2.1 (Kd.R_F (Kd.aB_ (ok' := (fun k_ => (w.heap.size ≤ k_) ∧ some k_ ≠ (v109 : Value).ownBlock ∧ k_ ≠ gb107)) (Kd.bs_ (Kd.cn_ (HO106.out) (Kd.N_typed HO110.out) (by decide)) BK107.out (by decide)) (fun k_ hk => ⟨hk.1.1, ⟨hk.1.2, hk.2⟩⟩))))) (Reps.none _ _)))
    intro v112 w18 ho19 hb hg_ hnew_
    clear hg_ hnew_
    (first | rw [← Ny111.out] at ho19 | (simp only [Int.reduceToNat] at ho19; rw [← Ny111.out] at ho19))
    have n0_ := Aside0.mk (Kd.N_elder' (nz HO110.out) (Kd.N_base ho19) hb)
    have n1_ := Aside0.mk (Kd.ds_ ho19 (ae_ (bq)))
    have n2_ := Aside0.mk (bb_ (kz BK107.out) hb)
    have n3_ := Aside0.mk (ac_ (bq) hb)
    clear HO110
    clear BK107
    clear HB
    clear HO106
    have HO110 := n0_
    have HO113 := n1_
    have BK107 := n2_
    have HB := n3_
    clear n0_ n1_ n2_ n3_
    clear hb ho19
    refine hK.out _ _ ⟨(aY_ BK107.out 0).trans rfl, (aY_ BK107.out 1).trans rfl, (aY_ BK107.out 2).trans rfl, (aY_ BK107.out 3).trans rfl⟩ (fun hHeld => ?_)
    clear hK K
    refine norm_ (a' := ?_) ?_ ?_
    rotate_left
    ·show Act.put _ (some 26) _ = _
     simp only [Act.put, lsa_, ls0_, ls1_, i64_w, i32_w]
     rfl
    exact norm_ (by simp only [bI_, Act.put, lsa_, ls0_, ls1_]) (hCont (v109, v112) _ ⟨hHeld, (nz (Kd.co_ HO110.out (fun _ hk => ⟨hk.1.1, ⟨hk.2, hk.1.2.2⟩⟩))), (nz HO113.out), (kz BK107.out), (bq)⟩)
   ·skip
    refine Kd.N_lit_step k78 _ 78 ?hg (N' := 26) ?hd (xs := ([(⟨wrap64 ((l0.length : Int) + 1), a1, a2, y104⟩ : S78)] : List (S78))) (inner := [.int .i64 (wrap64 ((l0.length : Int) + 1)), .int .i64 a1, .string a2, .slice Ao12 y104.length co12]) (ok := (fun k_ => (w.heap.size ≤ k_) ∧ k_ ≠ gb107)) (okp := (fun k_ => (w.heap.size ≤ k_) ∧ k_ ≠ gb107)) ?hr ?hp (fun _ hk => hk) ((show ∀ k_, w16.heap.size ≤ k_ → (fun k_ => (w.heap.size ≤ k_) ∧ k_ ≠ gb107) k_ from fun k_ hk => ⟨(Nat.le_trans (ae_ (bq)) hk), Kd.cV_ (g := gb107) (o := .cells #[.int .i64 (wrap64 ((l0.length : Int) + 1)), .int .i64 a1, .string a2, .slice Ao12 y104.length co12] 78 (0, 0)) (kz BK107.out) k_ hk⟩) _ (Nat.le_refl _)) (Below.refl _ _) (Nat.le_refl _) (by simp) ?_; (case hd => rfl); (case hg => rfl); (case hr => (go_simp; try rfl)); (case hp => exact (Reps.c4 (show Kd.FK k78 _ _ (⟨wrap64 ((l0.length : Int) + 1), a1, a2, y104⟩ : S78) [.int .i64 (wrap64 ((l0.length : Int) + 1)), .int .i64 a1, .string a2, .slice Ao12 y104.length co12] from (k78_mkF _ _ (⟨wrap64 ((l0.length : Int) + 1), a1, a2, y104⟩ : S78) (Kd.as_ (Kd.aB_ (ok' := (fun k_ => (w.heap.size ≤ k_) ∧ k_ ≠ gb107)) (Kd.bs_ (HO106.out) BK107.out (by decide)) (fun k_ hk => ⟨hk.1, hk.2⟩))).2.1 (Kd.R_F (Kd.aB_ (ok' := (fun k_ => (w.heap.size ≤ k_) ∧ k_ ≠ gb107)) (Kd.bs_ (HO106.out) BK107.out (by decide)) (fun k_ hk => ⟨hk.1, hk.2⟩))))) (Reps.none _ _)))
    intro v112 w17 ho18 hb hg_ hnew_
    clear hg_ hnew_
    (first | rw [← Ny111.out] at ho18 | (simp only [Int.reduceToNat] at ho18; rw [← Ny111.out] at ho18))
    have n0_ := Aside0.mk (Kd.ds_ ho18 (ae_ (bq)))
    have n1_ := Aside0.mk (bb_ (kz BK107.out) hb)
    have n2_ := Aside0.mk (ac_ (bq) hb)
    clear BK107
    clear HB
    clear HO106
    have HO113 := n0_
    have BK107 := n1_
    have HB := n2_
    clear n0_ n1_ n2_
    clear hb ho18
    refine hK.out _ _ ⟨(aY_ BK107.out 0).trans rfl, (aY_ BK107.out 1).trans rfl, (aY_ BK107.out 2).trans rfl, (aY_ BK107.out 3).trans rfl⟩ (fun hHeld => ?_)
    clear hK K
    refine norm_ (a' := ?_) ?_ ?_
    rotate_left
    ·show Act.put _ (some 26) _ = _
     simp only [Act.put, lsa_, ls0_, ls1_, i64_w, i32_w]
     rfl
    refine one_ (i := 1) (N := some 24) #[t_,t_,t_,t_,f_,f_,f_] rfl rfl (by kernel_rfl) (by decide) (fun K hK => ?_)
    (first | refine goes_ Try.func77 (by kernel_rfl) rfl #[.slice A0 l0.length c0] (by rfl) rfl rfl (by first | rfl | (simp only [lma_, lmc_, lmn_]; first | done | rfl)) ?_ | refine RPW.dc_ Try.func77 (by kernel_rfl) rfl #[.slice A0 l0.length c0] (by rfl) rfl rfl rfl (by first | rfl | (simp only [lma_, lmc_, lmn_]; first | done | rfl)) ?_ | refine RPW.dd_ Try.func77 (by kernel_rfl) rfl #[.slice A0 l0.length c0] (by rfl) rfl rfl rfl (by first | rfl | (simp only [lma_, lmc_, lmn_]; first | done | rfl)) ?_)
    with_reducible refine (bH_.calls k _ _ l0 t108 _ ?side1 ?side2 A7.out).mono ?_
    (case side1 => exact cz (Kd.bM_ HR0.out HB.out))
    (case side2 => exact HC0.out)
    rintro e w19 ⟨v109, rfl, ho0, hb⟩
    refine ⟨_, rfl, ?_⟩
    have n0_ := Aside0.mk (Kd.N_elder' (nz HO113.out) (Kd.S_base ho0) hb)
    have n1_ := Aside0.mk (Kd.ds_ (Kd.co_ (ok' := fun k_ => (w.heap.size ≤ k_) ∧ some k_ ≠ (v112 : Value).ownBlock ∧ k_ ≠ gb107) (Kd.S_N (Kd.S_bound ho0)) (fun k_ hk_ => ⟨(Nat.le_trans (ae_ (bq)) hk_.2.1), (Kd.fresh' (Kd.N_lt (nz HO113.out)) k_ hk_.2.1), (Kd.cV_ (g := gb107) (o := .cells #[.int .i64 (wrap64 ((l0.length : Int) + 1)), .int .i64 a1, .string a2, .slice Ao12 y104.length co12] 78 (0, 0)) (kz BK107.out) k_ hk_.2.1)⟩)) (ae_ (bq)))
    have n2_ := Aside0.mk (bb_ (kz BK107.out) hb)
    have n3_ := Aside0.mk (ac_ (bq) hb)
    clear HO113
    clear BK107
    clear HB
    have HO113 := n0_
    have HO110 := n1_
    have BK107 := n2_
    have HB := n3_
    clear n0_ n1_ n2_ n3_
    (try clear hb)
    (try clear ho0)
    refine hK.out _ _ ⟨(aY_ BK107.out 0).trans rfl, (aY_ BK107.out 1).trans rfl, (aY_ BK107.out 2).trans rfl, (aY_ BK107.out 3).trans rfl⟩ (fun hHeld => ?_)
    clear hK K
    refine norm_ (a' := ?_) ?_ ?_
    rotate_left
    ·show Act.put _ (some 24) _ = _
     simp only [Act.put, lsa_, ls0_, ls1_, i64_w, i32_w]
     rfl
    exact norm_ (by simp only [bI_, Act.put, lsa_, ls0_, ls1_]) (hCont (v109, v112) _ ⟨hHeld, (nz HO110.out), (nz (Kd.co_ HO113.out (fun _ hk => ⟨hk.1.1, ⟨hk.2, hk.1.2⟩⟩))), (kz BK107.out), (bq)⟩)
  rintro ⟨v109, v112⟩ w20 ⟨hS_, h0_, h1_, h2_, h3_⟩
  have n0_ : Aside0 (Kd.N k78 78 w20 w.heap.size (fun k_ => (w.heap.size ≤ k_) ∧ some k_ ≠ (v112 : Value).ownBlock ∧ k_ ≠ gb107) v109 t108) := ⟨h0_⟩
  have n1_ : Aside0 (Kd.N k78 78 w20 w.heap.size (fun k_ => (w.heap.size ≤ k_) ∧ some k_ ≠ (v109 : Value).ownBlock ∧ k_ ≠ gb107) v112 y111) := ⟨h1_⟩
  have n2_ : Aside0 (w20.heap[gb107]? = some (.cells #[.int .i64 (wrap64 ((l0.length : Int) + 1)), .int .i64 a1, .string a2, .slice Ao12 y104.length co12] 78 (0, 0))) := ⟨h2_⟩
  have n3_ : Aside0 (Below w.heap.size w w20) := ⟨h3_⟩
  clear HO106
  clear BK107
  clear HB
  clear h0_ h1_ h2_ h3_
  have HO110 := n0_
  have HO113 := n1_
  have BK107 := n2_
  have HB := n3_
  clear n0_ n1_ n2_ n3_
  have hHeld : w20.cell? ⟨gb107, 0, none⟩ = some (.int .i64 (wrap64 ((l0.length : Int) + 1))) ∧ w20.cell? ⟨gb107, 1, none⟩ = some (.int .i64 a1) ∧ w20.cell? ⟨gb107, 2, none⟩ = some (.string a2) ∧ w20.cell? ⟨gb107, 3, none⟩ = some (.slice Ao12 y104.length co12) := hS_
  obtain ⟨Ao22, co22, eo22⟩ := Kd.N_slice HO113.out
  (first | subst eo22 | (injection eo22 with f1_ f2_ f3_; have f4_ := f1_.symm; have f5_ := f3_.symm; clear f1_ f2_ f3_; subst f4_; subst f5_))
  refine norm_ (a' := ?_) ?_ ?_
  rotate_left
  ·simp only [bI_, Act.put, lsa_, ls0_, ls1_]
   rfl
  refine one_ (i := 4) (N := some 27) #[t_,t_,t_,t_,t_,f_,f_] rfl rfl (by kernel_rfl) (by decide) (fun K hK => ?_)
  refine Kd.N_append_rows_step k78 (w0 := w) w.heap.size (by rfl) (.tmp 24) (.tmp 26) 38 78 (.agg #[(.int .i64 0), (.int .i64 0), (.string ⟨#[]⟩), (.slice none 0 0)]) 56 rfl Try.underlying38 info78 rfl (by decide) (by omega) v109 t108 y111 _ _ _ (fun k_ => (w.heap.size ≤ k_) ∧ k_ ≠ gb107) (fun k_ => ((fun k_ => (w.heap.size ≤ k_) ∧ k_ ≠ gb107)) k_ ∧ some k_ ≠ (v109 : Value).ownBlock) rfl rfl ?aO ?aR (fun _ hk => hk) ?aF ?aB ?aS ?aL ?_
  (case aR => exact (by skip; exact Kd.N_F (Kd.co_ (ok' := (fun k_ => ((fun k_ => (w.heap.size ≤ k_) ∧ k_ ≠ gb107)) k_ ∧ some k_ ≠ (v109 : Value).ownBlock)) (HO113.out) (fun k_ hk => ⟨⟨hk.1, hk.2.2⟩, hk.2.1⟩))))
  (case aB => exact (bq))
  (case aF => exact (fun k_ hk => ⟨(Nat.le_trans (ae_ (bq)) hk), Kd.cV_ (g := gb107) (o := .cells #[.int .i64 (wrap64 ((l0.length : Int) + 1)), .int .i64 a1, .string a2, .slice Ao12 y104.length co12] 78 (0, 0)) (kz BK107.out) k_ hk⟩))
  (case aO => exact (nz (Kd.co_ HO110.out (fun _ hk => ⟨hk.1, hk.2.2⟩))))
  (case aS => exact (ae_ (bq)))
  (case aL => have := LMc8.out; omega)
  intro v115 w21 ho hb hg hat
  rw [← Ny114.out] at ho
  have n0_ := Aside0.mk (bS_ (g := gb107) (o := .cells #[.int .i64 (wrap64 ((l0.length : Int) + 1)), .int .i64 a1, .string a2, .slice Ao12 y104.length co12] 78 (0, 0)) (kz BK107.out) hg (Kd.N_away HO110.out (fun _ hk => hk.2.2)))
  have n1_ := Aside0.mk (Kd.N_afterv (ok := (fun k_ => (w.heap.size ≤ k_) ∧ k_ ≠ gb107)) (nz (Kd.co_ HO113.out (fun _ hk => ⟨⟨hk.1, hk.2.2⟩, hk.2.1⟩))) hg hat)
  have n2_ := Aside0.mk (hb)
  have n3_ := Aside0.mk (ho)
  clear BK107
  clear HO113
  clear HB
  clear HO110
  have BK107 := n0_
  have HO113 := n1_
  have HB := n2_
  have HO116 := n3_
  clear n0_ n1_ n2_ n3_
  clear ho hb hg hat
  refine hK.out _ _ ⟨(aY_ BK107.out 0).trans rfl, (aY_ BK107.out 1).trans rfl, (aY_ BK107.out 2).trans rfl, (aY_ BK107.out 3).trans rfl⟩ (fun hHeld => ?_)
  clear hK K
  refine norm_ (a' := ?_) ?_ ?_
  rotate_left
  ·show Act.put _ (some 27) _ = _
   simp only [Act.put, lsa_, ls0_, ls1_, i64_w, i32_w]
   rfl
  refine pure_ (i := 5) (N := some 8) (v := ?_) (a' := ?_) #[t_,t_,t_,t_,t_,t_,f_] rfl rfl (by kernel_rfl) (fun _ _ _ h => h) (Or.inl ⟨by rfl, ?_⟩) ?_ ?_
  rotate_left
  ·intro w'
   go_simp
   with_reducible rfl
  rotate_left
  ·simp only [Act.put, lsa_, ls0_, ls1_, i64_w, i32_w]
   rfl
  refine pure_ (i := 6) (N := some 9) (v := ?_) (a' := ?_) #[t_,t_,t_,t_,t_,t_,t_] rfl rfl (by kernel_rfl) (fun _ _ _ h => h) (Or.inl ⟨by rfl, ?_⟩) ?_ ?_
  rotate_left
  ·intro w'
   go_simp
   with_reducible rfl
  rotate_left
  ·simp only [Act.put, lsa_, ls0_, ls1_, i64_w, i32_w]
   rfl
  refine done_ (by kernel_rfl) ?_
  try go_wp2
  go_ret2
  exact ⟨_, by first | rfl | (simp [*, ao_, an_] <;> rfl), nz (Kd.co_ HO116.out (fun _ hk => hk.1)), bq⟩
 rw [if_pos c5] at H
 have c5b0 : ((l0.length : Int) == 16) = true := beq_iff_eq.mpr c5
 have c5b1 : ((l0.length : Int) != 16) = false := bne_eq_false_iff_eq.mpr c5
 clear c5
 simp only [Option.some.injEq, Prod.mk.injEq] at H
 obtain ⟨rfl, rfl⟩ := H
 go_enter Try.func51, Try.ntmps51
 go_wp2
 go_ret2
 exact ⟨_, by first | rfl | (simp [*, ao_, an_] <;> rfl), by first | exact Kd.S_nil _ _ _ _ _ | exact Kd.N_nil _ _ _ _ _ | exact Kd.V_nil _ _ _ _ _ | exact Kd.Q_nil _ _ _ _ _ | exact Kd.R_nil _ _ _ _ _, bz HB.out⟩
end Go.Proofs.Ytiheginanghhjaa.Q
namespace Go.Proofs.Ytiheginanghhjaa.Q
open Go.RowKit Go.Proofs.YtiheginanghhjaaW.PrintWords Go.Proofs.YtiheginanghhjaaW.PrintLast Go.Proofs.YtiheginanghhjaaW.PrintMore
theorem wr64 {x : Int} (h0 : -9223372036854775808 ≤ x) (h1 : x < 9223372036854775808) : wrap64 x = x := by unfold wrap64; omega
theorem wr64s (i : Nat) (h : (i : Int) < 9223372036854775807) : wrap64 ((i : Int) + 1) = ((i + 1 : Nat) : Int) := by rw [wr64 (by omega) (by omega)]; omega
theorem bi_ {α : Type} {g : Nat → Option α} {r : α} (h : Ev (fun k => g (k + 1)) r) : Ev g r := by
 obtain ⟨K, hK⟩ := h
 refine ⟨K + 1, fun k hk => ?_⟩
 obtain ⟨m, rfl⟩ : ∃ m, k = m + 1 := ⟨k - 1, by omega⟩
 exact hK m (by omega)
theorem Ev_t {α : Type} {c : Prop} [Decidable c] {f g : Nat → Option α} {r : α} (h : c) (k : Ev f r) : Ev (fun n => if c then f n else g n) r := by
 obtain ⟨K, hK⟩ := k
 exact ⟨K, fun n hn => (if_pos h).trans (hK n hn)⟩
theorem Ev_f {α : Type} {c : Prop} [Decidable c] {f g : Nat → Option α} {r : α} (h : ¬ c) (k : Ev g r) : Ev (fun n => if c then f n else g n) r := by
 obtain ⟨K, hK⟩ := k
 exact ⟨K, fun n hn => (if_neg h).trans (hK n hn)⟩
theorem Ev_b {α β : Type} {g : Nat → Option α} {f : Nat → α → Option β} {a : α} {r : β} (h : Ev g a) (k : Ev (fun n => f n a) r) : Ev (fun n => (g n).bind (fun x => f n x)) r := Ev.bind h k
theorem Ev_s {α β : Type} {a : α} {f : Nat → α → Option β} {r : β} (k : Ev (fun n => f n a) r) : Ev (fun n => (some a).bind (fun x => f n x)) r := k
theorem Ev_n {α : Type} {a r : α} (h : a = r) : Ev (fun _ => some a) r := ⟨0, fun _ _ => by rw [h]⟩
theorem Ev_c {α : Type} {o : Option α} {r : α} (h : o = some r) : Ev (fun _ => o) r := ⟨0, fun _ _ => h⟩
theorem Ev_at {α : Type} {g : Nat → Option α} {r r' : α} (h : Ev g r) (e : r = r') : Ev g r' := e ▸ h
theorem Ev_two {α β : Type} {g : Nat → Option α} {f : Nat → Option β} {a : α} {b : β} (h : Ev g a) (k : Ev f b) : ∃ K, ∀ n, K ≤ n → g n = some a ∧ f n = some b := by
 obtain ⟨K, hK⟩ := h
 obtain ⟨L, hL⟩ := k
 exact ⟨max K L, fun n hn => ⟨hK n (by omega), hL n (by omega)⟩⟩
theorem Ev_one {α : Type} {g : Nat → Option α} {a b : α} (h : Ev g a) (k : Ev g b) : a = b := by
 obtain ⟨K, hK⟩ := Ev_two h k
 have := hK K (Nat.le_refl _)
 have h2 := this.1.symm.trans this.2
 exact Option.some.inj h2
def cut (c s : Int) : Int := if s ≤ c then c - s else -1
theorem getD_in {α : Type} (l : List α) (z : α) (i : Nat) (h : i < l.length) : l.getD ((i : Int).toNat) z = l[i] := by simp [List.getD, h]
theorem getD_at {α : Type} (p q : List α) (z x : α) (i : Nat) (h : p.length = i) : (p ++ x :: q).getD ((i : Int).toNat) z = x := by subst h; simp [List.getD]
structure Ordr {κ : Type} (c : κ → κ → Int) : Prop where
 zero : ∀ a b, c a b = 0 ↔ a = b
 anti : ∀ a b, c a b < 0 ↔ 0 < c b a
 trans : ∀ a b d, c a b < 0 → c b d < 0 → c a d < 0
theorem cb_ord : Ordr Go.Lib.compareBytes := by
 constructor
 ·intro a
  induction a with
  | nil => intro b; cases b <;> simp [Go.Lib.compareBytes]
  | cons x a ih =>
   intro b
   cases b with
   | nil => simp [Go.Lib.compareBytes]
   | cons y b =>
    simp only [Go.Lib.compareBytes]
    by_cases h1 : x < y
    rotate_left
    ·by_cases h2 : y < x
     rotate_left
     ·have : x = y := UInt8.le_antisymm (UInt8.not_lt.1 h2) (UInt8.not_lt.1 h1)
      subst this
      simp [h1, ih]
     have : x ≠ y := fun e => by subst e; exact absurd h2 (UInt8.lt_irrefl _)
     simp [h1, h2, this]
    have : x ≠ y := fun e => by subst e; exact absurd h1 (UInt8.lt_irrefl _)
    simp [h1, this]
 ·intro a
  induction a with
  | nil => intro b; cases b <;> simp [Go.Lib.compareBytes]
  | cons x a ih =>
   intro b
   cases b with
   | nil => simp [Go.Lib.compareBytes]
   | cons y b =>
    simp only [Go.Lib.compareBytes]
    by_cases h1 : x < y
    rotate_left
    ·by_cases h2 : y < x
     rotate_left
     ·simp [h1, h2, ih]
     simp [h1, h2]
    have h2 : ¬ y < x := fun h => absurd (UInt8.lt_trans h1 h) (UInt8.lt_irrefl _)
    simp [h1, h2]
 ·intro a
  induction a with
  | nil => intro b d; cases b <;> cases d <;> simp [Go.Lib.compareBytes]
  | cons x a ih =>
   intro b d
   cases b with
   | nil => simp [Go.Lib.compareBytes]
   | cons y b =>
    cases d with
    | nil => simp [Go.Lib.compareBytes]
    | cons z d =>
     simp only [Go.Lib.compareBytes]
     by_cases h1 : x < y
     rotate_left
     ·by_cases h1' : y < x
      ·simp [h1, h1']
      ·have : x = y := UInt8.le_antisymm (UInt8.not_lt.1 h1') (UInt8.not_lt.1 h1)
       subst this
       by_cases h2 : x < z
       rotate_left
       ·by_cases h3 : z < x
        rotate_left
        ·simpa [h1, h2, h3] using ih b d
        simp [h2, h3]
       simp [h2]
     by_cases h2 : y < z
     rotate_left
     ·by_cases h3 : z < y
      rotate_left
      ·have : y = z := UInt8.le_antisymm (UInt8.not_lt.1 h3) (UInt8.not_lt.1 h2)
       subst this
       simp [h1]
      simp [h1, h2, h3]
     simp [h1, h2, UInt8.lt_trans h1 h2]
theorem Ordr.step {κ : Type} {c : κ → κ → Int} (h : Ordr c) {x y t : κ} (h1 : c x y < 0) (h2 : 0 ≤ c x t) : 0 < c y t := by
 by_cases e : c x t = 0
 rotate_left
 ·have q : c t x < 0 := (h.anti t x).2 (by omega)
  exact (h.anti t y).1 (h.trans t x y q h1)
 have := (h.zero x t).1 e
 subst this
 exact (h.anti _ _).1 h1
def plc {α : Type} (c : α → Int) : List α → Nat
 | [] => 0
 | x :: l => if c x < 0 then plc c l + 1 else 0
def Rsg {α : Type} (c : α → Int) (l : List α) : Prop := ∀ (i j : Nat) (hi : i < j) (hj : j < l.length), 0 ≤ c l[i] → 0 < c l[j]
theorem plc_le {α : Type} (c : α → Int) : ∀ l, plc c l ≤ l.length
 | [] => by simp [plc]
 | x :: l => by have := plc_le c l; unfold plc; split <;> simp <;> omega
theorem plc_lt {α : Type} (c : α → Int) : ∀ l (i : Nat) (hi : i < l.length), i < plc c l → c l[i] < 0
 | [], i, hi, _ => by simp at hi
 | x :: l, i, hi, h => by
  unfold plc at h
  split at h
  ·rename_i hx
   cases i with
   | zero => exact hx
   | succ i => exact plc_lt c l i (by simpa using hi) (by omega)
  ·omega
theorem plc_at {α : Type} (c : α → Int) : ∀ l (h : plc c l < l.length), 0 ≤ c (l[plc c l]'h)
 | [], h => by simp [plc] at h
 | x :: l, h => by
  by_cases hx : c x < 0
  rotate_left
  ·have e : plc c (x :: l) = 0 := by rw [plc, if_neg hx]
   simp only [e, List.getElem_cons_zero]
   omega
  have e : plc c (x :: l) = plc c l + 1 := by rw [plc, if_pos hx]
  have h2 : plc c l < l.length := by rw [e] at h; simpa using h
  have := plc_at c l h2
  simpa only [e, List.getElem_cons_succ] using this
theorem Rsg.gt {α : Type} {c : α → Int} {l : List α} (h : Rsg c l) (i : Nat) (hi : i < l.length) (hp : plc c l < i) : 0 < c l[i] := h (plc c l) i hp hi (plc_at c l (by omega))
def fnd {α : Type} (c : α → Int) (l : List α) : Bool := if h : plc c l < l.length then decide (c (l[plc c l]'h) = 0) else false
theorem fnd_t {α : Type} {c : α → Int} {l : List α} (h : fnd c l = true) : ∃ hp : plc c l < l.length, c (l[plc c l]'hp) = 0 := by
 unfold fnd at h
 split at h
 ·rename_i hp; exact ⟨hp, by simpa using h⟩
 ·cases h
theorem fnd_f {α : Type} {c : α → Int} {l : List α} (hr : Rsg c l) (h : fnd c l = false) (i : Nat) (hi : i < l.length) : c l[i] ≠ 0 := by
 rcases Nat.lt_trichotomy i (plc c l) with g | g | g
 ·have := plc_lt c l i hi g; omega
 ·subst g
  unfold fnd at h
  rw [dif_pos hi] at h
  simpa using h
 ·have := hr.gt i hi g; omega
theorem rsg_of {α κ : Type} {c : κ → κ → Int} (ho : Ordr c) (key : α → κ) {l : List α} (h : ∀ (i : Nat) (hi : i + 1 < l.length), c (key (l[i]'(by omega))) (key l[i + 1]) < 0) (t : κ) : Rsg (fun x => c (key x) t) l := by
 have q : ∀ (d i : Nat) (hj : i + d + 1 < l.length), c (key (l[i]'(by omega))) (key l[i + d + 1]) < 0 := by
  intro d
  induction d with
  | zero => intro i hj; exact h i hj
  | succ d ih =>
   intro i hj
   exact ho.trans _ _ _ (ih i (by omega)) (h (i + d + 1) (by omega))
 intro i j hi hj h0
 have e : i + (j - i - 1) + 1 = j := by omega
 have := q (j - i - 1) i (by omega)
 simp only [e] at this
 exact ho.step this h0
theorem mid_ev (i j : Nat) (h : (i : Int) + j < 1000000000000) : wrap64 ((IntKind.u64.wrap (wrap64 ((i : Int) + j))) / 2) = (((i + j) / 2 : Nat) : Int) := by
 rw [wr64 (x := (i : Int) + j) (by omega) (by omega)]
 have : IntKind.u64.wrap ((i : Int) + j) = (i : Int) + j := by simp [IntKind.wrap, IntKind.bits, IntKind.signed]; omega
 rw [this, wr64 (by omega) (by omega)]
 omega
theorem ite_and (b c : Bool) : (if b = true then some c else some false) = some (b && c) := by cases b <;> rfl
theorem in_f (a b c : Int) : bX_.f a b c = some (decide (b ≤ a) && decide (a ≤ c)) := by unfold bX_.f; by_cases h : a ≥ b <;> simp [h]
theorem within_f (a b c : Int) : bx_.f a b c = some (decide (b ≤ a) && decide (a ≤ c)) := by unfold bx_.f; by_cases h : a ≥ b <;> simp [h]
theorem w64 {x : Int} (h0 : -9223372036854775808 ≤ x) (h1 : x < 9223372036854775808) : wrap64 x = x := by unfold wrap64; omega
theorem toList_len (x : ByteArray) : x.toList.length = x.size := by
 rw [Go.ByteArray.toList_eq x, Array.length_toList]; rfl
theorem name_round (k : Nat) (x : ByteArray) (i : Int) : aM_.l0 k x i = aL_.l0 k x i := by
 induction k generalizing i with
 | zero => rfl
 | succ k ih =>
  simp only [aM_.l0, aL_.l0, ih, cv_.f, cZ_.f]
  by_cases h1 : i < (x.size : Int)
  rotate_left
  ·rw [if_neg h1, if_neg h1]
  rw [if_pos h1, if_pos h1]
  by_cases h2 : 0 ≤ i
  rotate_left
  ·rw [if_neg h2, if_neg h2]
  rw [if_pos h2, if_pos h2]
  generalize bt x i = c
  by_cases h3 : c < 97
  rotate_left
  ·rw [if_neg h3, if_pos (show c ≥ 97 by omega)]
   by_cases h4 : c > 122
   rotate_left
   ·rw [if_neg h4]; simp [show c ≤ 122 by omega]
   simp [h4, show ¬ c < 48 by omega, show c > 57 by omega, show ¬ c ≤ 122 by omega, show ¬ c ≤ 57 by omega]
  rw [if_pos h3, if_neg (by omega)]
  by_cases h4 : c < 48
  rotate_left
  ·rw [if_neg h4, if_pos (by omega)]
   by_cases h5 : c > 57
   rotate_left
   ·rw [if_neg h5]; simp [show c ≤ 57 by omega]
   rw [if_pos h5]; simp [show ¬ c ≤ 57 by omega]
  rw [if_pos h4, if_neg (by omega)]; simp
theorem name_same (k : Nat) (x : ByteArray) : aM_.f k x = aL_.f k x := by
 have hj : ∀ b, aM_.j0 k x b = aL_.j0 k x b := by
  intro b
  cases k with
  | zero => rfl
  | succ k => simp only [aM_.j0, aL_.j0, name_round]
 unfold aM_.f aL_.f cv_.f
 simp only [hj]
 by_cases h0 : x.toList = []
 rotate_left
 ·have : x.size ≠ 0 := by
   intro e; apply h0; apply List.eq_nil_of_length_eq_zero; rw [toList_len, e]
  rw [if_neg h0, if_neg (show ¬ (x.size : Int) < 1 by omega)]
  by_cases h1 : (x.size : Int) > 10
  rotate_left
  ·rw [if_neg h1, if_neg h1, if_pos (show 0 < (x.size : Int) by omega), if_pos (show 0 < (x.size : Int) by omega)]
   generalize bt x 0 = c
   by_cases h3 : c < 97
   rotate_left
   ·rw [if_neg h3, if_pos (show c ≥ 97 by omega)]
    simp only [Option.bind_some]
    congr 1
    by_cases h4 : c > 122
    rotate_left
    ·simp [h4, show c ≤ 122 by omega]
    simp [h4, show ¬ c ≤ 122 by omega]
   rw [if_pos h3, if_neg (show ¬ c ≥ 97 by omega)]; rfl
  rw [if_pos h1, if_pos h1]
 have : x.size = 0 := by rw [← toList_len, h0]; rfl
 rw [if_pos h0, if_pos (by omega)]
theorem name_ev (x : ByteArray) : ∃ b, ∀ k, 12 < k → aL_.f k x = some b := by
 have go : ∀ (d : Nat) (i : Int), 0 ≤ i → i + d = x.size → (x.size : Int) ≤ 10 → ∃ b, ∀ k, d < k → aL_.l0 k x i = some b := by
  intro d
  induction d with
  | zero =>
   intro i h0 h1 _
   refine ⟨true, fun k hk => ?_⟩
   obtain ⟨k, rfl⟩ : ∃ m, k = m + 1 := ⟨k - 1, by omega⟩
   simp only [aL_.l0]
   rw [if_neg (by omega)]
  | succ d ih =>
   intro i h0 h1 h2
   obtain ⟨b, hb⟩ := ih (i + 1) (by omega) (by omega) h2
   by_cases h3 : bt x i < 97
   rotate_left
   ·by_cases h4 : bt x i > 122
    rotate_left
    ·refine ⟨b, fun k hk => ?_⟩
     obtain ⟨k, rfl⟩ : ∃ m, k = m + 1 := ⟨k - 1, by omega⟩
     simp only [aL_.l0]
     rw [if_pos (by omega), if_pos h0, if_neg h3, if_neg h4, w64 (by omega) (by omega), hb k (by omega)]
    refine ⟨false, fun k hk => ?_⟩
    obtain ⟨k, rfl⟩ : ∃ m, k = m + 1 := ⟨k - 1, by omega⟩
    simp only [aL_.l0]
    rw [if_pos (by omega), if_pos h0, if_neg h3, if_pos h4, if_neg (by omega), if_pos (by omega)]
   by_cases h4 : bt x i < 48
   rotate_left
   ·by_cases h5 : bt x i > 57
    rotate_left
    ·refine ⟨b, fun k hk => ?_⟩
     obtain ⟨k, rfl⟩ : ∃ m, k = m + 1 := ⟨k - 1, by omega⟩
     simp only [aL_.l0]
     rw [if_pos (by omega), if_pos h0, if_pos h3, if_neg h4, if_neg h5, w64 (by omega) (by omega), hb k (by omega)]
    refine ⟨false, fun k hk => ?_⟩
    obtain ⟨k, rfl⟩ : ∃ m, k = m + 1 := ⟨k - 1, by omega⟩
    simp only [aL_.l0]
    rw [if_pos (by omega), if_pos h0, if_pos h3, if_neg h4, if_pos h5]
   refine ⟨false, fun k hk => ?_⟩
   obtain ⟨k, rfl⟩ : ∃ m, k = m + 1 := ⟨k - 1, by omega⟩
   simp only [aL_.l0]
   rw [if_pos (by omega), if_pos h0, if_pos h3, if_pos h4]
 have hj : ∀ (b : Bool), (b = false → (x.size : Int) ≤ 10) → ∃ c, ∀ k, 12 < k → aL_.j0 k x b = some c := by
  intro b hs
  cases b with
  | true =>
   refine ⟨false, fun k hk => ?_⟩
   obtain ⟨k, rfl⟩ : ∃ m, k = m + 1 := ⟨k - 1, by omega⟩
   simp only [aL_.j0, if_true]
  | false =>
   obtain ⟨c, hc⟩ := go x.size 0 (by omega) (by omega) (hs rfl)
   have := hs rfl
   refine ⟨c, fun k hk => ?_⟩
   obtain ⟨k, rfl⟩ : ∃ m, k = m + 1 := ⟨k - 1, by omega⟩
   simp only [aL_.j0]
   rw [if_neg (by decide), hc k (by omega)]
 unfold aL_.f
 by_cases h1 : (x.size : Int) < 1
 rotate_left
 ·simp only [if_neg h1]
  by_cases h2 : (x.size : Int) > 10
  rotate_left
  ·simp only [if_neg h2, if_pos (show 0 < (x.size : Int) by omega)]
   by_cases h3 : bt x 0 < 97
   rotate_left
   ·simp only [if_neg h3]; exact hj _ (fun _ => by omega)
   simp only [if_pos h3]; exact hj true (by intro h; cases h)
  simp only [if_pos h2]; exact hj true (by intro h; cases h)
 simp only [if_pos h1]; exact hj true (by intro h; cases h)
def spi (l : List UInt8) : Int := if l = [97, 115, 104] then 0 else if l = [98, 101, 101, 99, 104] then 1 else if l = [98, 105, 114, 99, 104] then 2 else if l = [99, 104, 101, 114, 114, 121] then 3 else if l = [101, 98, 111, 110, 121] then 4 else if l = [104, 111, 108, 108, 121] then 5 else if l = [109, 97, 112, 108, 101] then 6 else if l = [111, 97, 107] then 7 else if l = [114, 111, 115, 101, 119, 111, 111, 100] then 8 else if l = [119, 97, 108, 110, 117, 116] then 9 else -1
def shades : List Int := [20, 35, 15, 50, 95, 5, 10, 40, 80, 70]
theorem sp_cases (l : List UInt8) : (l = [97, 115, 104]) ∨ (l = [98, 101, 101, 99, 104]) ∨ (l = [98, 105, 114, 99, 104]) ∨ (l = [99, 104, 101, 114, 114, 121]) ∨ (l = [101, 98, 111, 110, 121]) ∨ (l = [104, 111, 108, 108, 121]) ∨ (l = [109, 97, 112, 108, 101]) ∨ (l = [111, 97, 107]) ∨ (l = [114, 111, 115, 101, 119, 111, 111, 100]) ∨ (l = [119, 97, 108, 110, 117, 116]) ∨ (¬ l = [97, 115, 104] ∧ ¬ l = [98, 101, 101, 99, 104] ∧ ¬ l = [98, 105, 114, 99, 104] ∧ ¬ l = [99, 104, 101, 114, 114, 121] ∧ ¬ l = [101, 98, 111, 110, 121] ∧ ¬ l = [104, 111, 108, 108, 121] ∧ ¬ l = [109, 97, 112, 108, 101] ∧ ¬ l = [111, 97, 107] ∧ ¬ l = [114, 111, 115, 101, 119, 111, 111, 100] ∧ ¬ l = [119, 97, 108, 110, 117, 116]) := by
 by_cases h0 : l = [97, 115, 104]
 ·exact .inl h0
 by_cases h1 : l = [98, 101, 101, 99, 104]
 ·exact .inr ((.inl h1))
 by_cases h2 : l = [98, 105, 114, 99, 104]
 ·exact .inr (.inr ((.inl h2)))
 by_cases h3 : l = [99, 104, 101, 114, 114, 121]
 ·exact .inr (.inr (.inr ((.inl h3))))
 by_cases h4 : l = [101, 98, 111, 110, 121]
 ·exact .inr (.inr (.inr (.inr ((.inl h4)))))
 by_cases h5 : l = [104, 111, 108, 108, 121]
 ·exact .inr (.inr (.inr (.inr (.inr ((.inl h5))))))
 by_cases h6 : l = [109, 97, 112, 108, 101]
 ·exact .inr (.inr (.inr (.inr (.inr (.inr ((.inl h6)))))))
 by_cases h7 : l = [111, 97, 107]
 ·exact .inr (.inr (.inr (.inr (.inr (.inr (.inr ((.inl h7))))))))
 by_cases h8 : l = [114, 111, 115, 101, 119, 111, 111, 100]
 ·exact .inr (.inr (.inr (.inr (.inr (.inr (.inr (.inr ((.inl h8)))))))))
 by_cases h9 : l = [119, 97, 108, 110, 117, 116]
 ·exact .inr (.inr (.inr (.inr (.inr (.inr (.inr (.inr (.inr ((.inl h9))))))))))
 exact .inr (.inr (.inr (.inr (.inr (.inr (.inr (.inr (.inr (.inr (⟨h0, h1, h2, h3, h4, h5, h6, h7, h8, h9⟩))))))))))
theorem l07Find_f (a : ByteArray) (k : Nat) (hk : 12 ≤ k) : bY_.f k a = some (spi a.toList) := by
 obtain ⟨k, rfl⟩ : ∃ m, k = m + 12 := ⟨k - 12, by omega⟩
 unfold bY_.f cf_.f spi
 simp only [Option.bind_some, bY_.l0, wrap64, rdOf]
 simp (decide := true)
 generalize a.toList = l
 simp only [eq_comm (b := l)]
 rcases sp_cases l with h | h | h | h | h | h | h | h | h | h | h
 all_goals first | (subst h; decide) | (obtain ⟨h0, h1, h2, h3, h4, h5, h6, h7, h8, h9⟩ := h; simp only [h0, h1, h2, h3, h4, h5, h6, h7, h8, h9, if_false])
def vVen (l : List UInt8) (sh gr : Int) : Bool := decide (0 ≤ spi l) && ((decide (0 ≤ sh) && decide (sh ≤ 100)) && ((decide (rd shades (spi l) - 15 ≤ sh) && decide (sh ≤ rd shades (spi l) + 15)) && (decide (0 ≤ gr) && decide (gr ≤ 179))))
theorem spi_range (l : List UInt8) : -1 ≤ spi l ∧ spi l ≤ 9 := by
 rcases sp_cases l with h | h | h | h | h | h | h | h | h | h | h
 all_goals first | (subst h; decide) | (obtain ⟨h0, h1, h2, h3, h4, h5, h6, h7, h8, h9⟩ := h; unfold spi; simp only [h0, h1, h2, h3, h4, h5, h6, h7, h8, h9, if_false]; decide)
theorem shade_of (i : Int) (h0 : 0 ≤ i) (h1 : i ≤ 9) : ∃ t, cu_.f = some t ∧ i < t.length ∧ 0 < (rd_L4 t i).length ∧ rd (rd_L4 t i) 0 = rd shades i ∧ 0 ≤ rd shades i ∧ rd shades i ≤ 100 := by
 refine ⟨_, rfl, ?_⟩
 obtain ⟨n, rfl⟩ := Int.eq_ofNat_of_zero_le h0
 have hn : n ≤ 9 := by omega
 match n, hn with
 | 0, _ => decide
 | 1, _ => decide
 | 2, _ => decide
 | 3, _ => decide
 | 4, _ => decide
 | 5, _ => decide
 | 6, _ => decide
 | 7, _ => decide
 | 8, _ => decide
 | 9, _ => decide
theorem iShade_f (a : ByteArray) : bT_.f a = some (if 0 ≤ spi a.toList then (rd shades (spi a.toList), true) else (0, false)) := by
 unfold bT_.f cI_.f spi
 generalize a.toList = l
 rcases sp_cases l with h | h | h | h | h | h | h | h | h | h | h
 all_goals first | (subst h; decide) | (obtain ⟨h0, h1, h2, h3, h4, h5, h6, h7, h8, h9⟩ := h; simp only [h0, h1, h2, h3, h4, h5, h6, h7, h8, h9, if_false]; decide)
theorem l07Ok_f (x : S61) (k : Nat) (hk : 12 ≤ k) : bW_.f k [x] = some (vVen x.f0.toList x.f1 x.f2) := by
 obtain ⟨k, rfl⟩ : ∃ m, k = m + 1 := ⟨k - 1, by omega⟩
 have hrd : de_ [x] 0 = x := rfl
 unfold bW_.f vVen
 rw [if_pos (by simp), hrd, l07Find_f _ _ hk]
 simp only [Option.bind_some]
 have hr := spi_range x.f0.toList
 by_cases h : spi x.f0.toList < 0
 rotate_left
 ·rw [if_neg h, in_f, show decide (0 ≤ spi x.f0.toList) = true from decide_eq_true (by omega)]
  obtain ⟨t, ht, h1, h2, h3, h4, h5⟩ := shade_of (spi x.f0.toList) (by omega) (by omega)
  simp only [Option.bind_some, bW_.j0]
  cases hs : (decide (0 ≤ x.f1) && decide (x.f1 ≤ 100))
  ·simp
  ·rw [if_neg (by simp), ht]
   simp only [Option.bind_some]
   rw [if_pos (by omega), if_pos h1, if_pos (by omega), if_pos (by simp), hrd, h3, in_f, w64 (by omega) (by omega), w64 (by omega) (by omega)]
   simp only [Option.bind_some, cQ_.f, in_f]
   rw [ite_and]
   simp
 rw [if_pos h]
 simp only [bW_.j0, if_true]
 rw [show decide (0 ≤ spi x.f0.toList) = false from decide_eq_false (by omega)]
 rfl
theorem iValidVeneer_f (a : ByteArray) (sh gr : Int) : cp_.f a sh gr = some (vVen a.toList sh gr) := by
 unfold cp_.f vVen
 rw [iShade_f]
 simp only [Option.bind_some]
 have hr := spi_range a.toList
 by_cases h : 0 ≤ spi a.toList
 rotate_left
 ·rw [if_neg h, show decide (0 ≤ spi a.toList) = false from decide_eq_false h]
  simp
 rw [if_pos h]
 obtain ⟨t, ht, h1, h2, h3, h4, h5⟩ := shade_of (spi a.toList) h (by omega)
 simp only [if_true, within_f, Option.bind_some]
 rw [show decide (0 ≤ spi a.toList) = true from decide_eq_true h]
 cases hs : (decide (0 ≤ sh) && decide (sh ≤ 100))
 ·simp
 ·have hs' : 0 ≤ sh ∧ sh ≤ 100 := by simpa using hs
  rw [w64 (by omega) (by omega)]
  simp only [if_true, ite_and, Bool.true_and]
  congr 2
  rw [Bool.eq_iff_iff]
  simp only [Bool.and_eq_true, decide_eq_true_eq]
  omega
end Go.Proofs.Ytiheginanghhjaa.Q
namespace Go.Proofs.Ytiheginanghhjaa.OPN
open Go Go.RowKit Go.Proofs.YtiheginanghhjaaW.PrintWords
structure Opn {α : Type} (P : Program) (t : TypeId) (d : Kd α) (wf : α → Prop) : Prop where
 size : P.cellsOf t = d.sz
 get : ∀ {H : Type} {enc : TypeId × Value → H} {w : World} {base : Nat} {spare : Nat → Bool} {held : Bool} {fuel : Nat} {cs : List Value} {x : DataW H × List MemPlace},
  cs.length = d.sz → DataW.trod enc P w base spare held fuel t cs = some x → ∃ a, d.K w a cs ∧ wf a
theorem dl_ {cs : List Value} (h : cs.length = 1) : ∃ v, cs = [v] := by
 match cs, h with
 | [v], _ => exact ⟨v, rfl⟩
structure OpnF {α : Type} (P : Program) (fs : List (TypeId × Nat)) (off : Nat) (d : Kd α) (wf : α → Prop) : Prop where
 get : ∀ {H : Type} {enc : TypeId × Value → H} {w : World} {base : Nat} {spare : Nat → Bool} {held : Bool} {fuel : Nat} {cs : List Value} {xs : List (DataW H × List MemPlace)},
  cs.length = off + d.sz → fs.mapM (fun f => DataW.trod enc P w base spare held fuel f.1 ((cs.drop f.2).take (P.cellsOf f.1))) = some xs → ∃ a, d.K w a (cs.drop off) ∧ wf a
end Go.Proofs.Ytiheginanghhjaa.OPN
namespace Go.Proofs.Ytiheginanghhjaa.Q
open Go.RowKit Go.Proofs.YtiheginanghhjaaW.PrintWords Go.Proofs.YtiheginanghhjaaW.PrintLast Go.Proofs.YtiheginanghhjaaW.PrintMore
theorem bR_ (l : List S63) (i : Nat) (h : i < l.length) : af_ l (i : Int) = l[i] := by unfold af_; exact getD_in l _ i h
theorem cC_ (l : List S78) (i : Nat) (h : i < l.length) : ar_ l (i : Int) = l[i] := by unfold ar_; exact getD_in l _ i h
abbrev Ent := S63
abbrev Ver := S78
def fcE (x : Ent) : List UInt8 := x.f0.data.toList
theorem less_iff : ∀ l m : List UInt8, Op.bytesLess l m = true ↔ Go.Lib.compareBytes l m < 0
 | [], [] => by simp [Go.Lib.compareBytes, Op.bytesLess]
 | [], _ :: _ => by simp [Go.Lib.compareBytes, Op.bytesLess]
 | _ :: _, [] => by simp [Go.Lib.compareBytes, Op.bytesLess]
 | a :: x, b :: y => by
  have ih := less_iff x y
  unfold Go.Lib.compareBytes Op.bytesLess
  by_cases hab : a < b
  rotate_left
  ·by_cases hba : b < a
   rotate_left
   ·have he : a = b := UInt8.le_antisymm (UInt8.not_lt.1 hba) (UInt8.not_lt.1 hab)
    subst he
    simp only [hab, if_false]
    simpa using ih
   have hne : a ≠ b := fun e => by subst e; exact absurd hba (UInt8.lt_irrefl _)
   simp [hab, hba, hne]
  have hne : a ≠ b := fun e => by subst e; exact absurd hab (UInt8.lt_irrefl _)
  simp [hab, hne]
theorem nameE_ev (x : ByteArray) : ∃ b, Ev (fun k => aL_.f k x) b ∧ Ev (fun k => aM_.f k x) b := by
 obtain ⟨b, hb⟩ := name_ev x
 exact ⟨b, ⟨13, fun k hk => hb k (by omega)⟩, ⟨13, fun k hk => (name_same k x).trans (hb k (by omega))⟩⟩
theorem entry_ev (x : Ent) : ∃ b, Ev (fun k => ce_.f k [x]) b ∧ Ev (fun k => cm_.f k x.f0 x.f1.f0 x.f1.f1 x.f1.f2) b ∧ (b = true → vVen x.f1.f0.toList x.f1.f1 x.f1.f2 = true) := by
 obtain ⟨n, h1, h2⟩ := nameE_ev x.f0
 have v1 : Ev (fun k => bW_.f k [x.f1]) (vVen x.f1.f0.toList x.f1.f1 x.f1.f2) := ⟨12, fun k hk => l07Ok_f x.f1 k hk⟩
 have v2 := iValidVeneer_f x.f1.f0 x.f1.f1 x.f1.f2
 have r0 : af_ [x] 0 = x := rfl
 cases n with
 | false =>
  refine ⟨false, ?_, ?_, fun h => by cases h⟩
  ·simp only [ce_.f, r0]; exact Ev_t (by simp) (Ev_b h2 (Ev_f (by decide) (Ev_n rfl)))
  ·simp only [cm_.f]; exact Ev_b h1 (Ev_f (by decide) (Ev_n rfl))
 | true =>
  refine ⟨vVen x.f1.f0.toList x.f1.f1 x.f1.f2, ?_, ?_, fun h => h⟩
  ·simp only [ce_.f, r0]; exact Ev_t (by simp) (Ev_b h2 (Ev_t rfl (Ev_b v1 (Ev_n rfl))))
  ·simp only [cm_.f]; exact Ev_b h1 (Ev_t rfl (Ev_b (Ev_c v2) (Ev_n rfl)))
def Sta (m : List Ent) : Prop := m.length ≤ 24 ∧ (∀ (i : Nat) (hi : i + 1 < m.length), Go.Lib.compareBytes (fcE (m[i]'(by omega))) (fcE m[i + 1]) < 0) ∧ ∀ y ∈ m, vVen y.f1.f0.toList y.f1.f1 y.f1.f2 = true
theorem state_ev (m : List Ent) (hl : (m.length : Int) ≤ 1048576) : ∃ b, Ev (fun k => au_.f k m) b ∧ Ev (fun k => am_.f k m) b ∧ (b = true → Sta m) := by
 have go : ∀ (d i : Nat), i + d = m.length → ∃ b, Ev (fun k => au_.l0 k m i) b ∧ Ev (fun k => am_.l0 k m m (m.length : Int) i) b ∧ (b = true → m.length ≤ 24 ∧ (∀ (j : Nat), i ≤ j → 0 < j → ∀ (hj : j < m.length), Go.Lib.compareBytes (fcE (m[j - 1]'(by omega))) (fcE m[j]) < 0) ∧ ∀ (j : Nat), i ≤ j → ∀ (hj : j < m.length), vVen m[j].f1.f0.toList m[j].f1.f1 m[j].f1.f2 = true) := by
  intro d
  induction d with
  | zero =>
   intro i h1
   refine ⟨decide ((m.length : Int) ≤ 24), bi_ ?_, bi_ ?_, fun h => ⟨by have := of_decide_eq_true h; omega, fun j h2 _ hj => by omega, fun j h2 hj => by omega⟩⟩
   ·simp only [au_.l0]; exact Ev_f (by omega) (Ev_n rfl)
   ·simp only [am_.l0]; exact Ev_f (by omega) (Ev_n rfl)
  | succ d ih =>
   intro i h1
   have hi : i < m.length := by omega
   obtain ⟨v, v1, v2, v3⟩ := entry_ev m[i]
   cases v with
   | false =>
    refine ⟨false, bi_ ?_, bi_ ?_, fun h => by cases h⟩
    ·simp only [au_.l0]
     refine Ev_t (by omega) (Ev_t (by omega) ?_)
     rw [bR_ m i hi]
     exact Ev_b v1 (Ev_f (by decide) (Ev_n rfl))
    ·simp only [am_.l0]
     refine Ev_t (by omega) (Ev_t (by omega) (Ev_t (by omega) ?_))
     rw [bR_ m i hi]
     exact Ev_b v2 (Ev_f (by decide) (Ev_n rfl))
   | true =>
    obtain ⟨b, b1, b2, b3⟩ := ih (i + 1) (by omega)
    by_cases h0 : i = 0
    rotate_left
    ·have e : wrap64 ((i : Int) - 1) = ((i - 1 : Nat) : Int) := by rw [wr64 (by omega) (by omega)]; omega
     by_cases hc : Op.bytesLess ((m[i - 1]'(by omega)).f0.toList) (m[i].f0.toList) = true
     rotate_left
     ·refine ⟨false, bi_ ?_, bi_ ?_, fun h => by cases h⟩
      ·simp only [au_.l0]
       refine Ev_t (by omega) (Ev_t (by omega) ?_)
       rw [e, bR_ m i hi, bR_ m (i - 1) (by omega), wr64s i (by omega)]
       exact Ev_b v1 (Ev_t rfl (Ev_t (by omega) (Ev_t (by omega) (Ev_t (by omega) (Ev_f hc (Ev_n rfl))))))
      ·simp only [am_.l0]
       refine Ev_t (by omega) (Ev_t (by omega) (Ev_t (by omega) ?_))
       rw [e, bR_ m i hi, bR_ m (i - 1) (by omega), wr64s i (by omega)]
       exact Ev_b v2 (Ev_t rfl (Ev_t (by omega) (Ev_t (by omega) (Ev_t (by omega) (Ev_f hc (Ev_n rfl))))))
     refine ⟨b, bi_ ?_, bi_ ?_, fun h => ?_⟩
     ·simp only [au_.l0]
      refine Ev_t (by omega) (Ev_t (by omega) ?_)
      rw [e, bR_ m i hi, bR_ m (i - 1) (by omega), wr64s i (by omega)]
      exact Ev_b v1 (Ev_t rfl (Ev_t (by omega) (Ev_t (by omega) (Ev_t (by omega) (Ev_t hc b1)))))
     ·simp only [am_.l0]
      refine Ev_t (by omega) (Ev_t (by omega) (Ev_t (by omega) ?_))
      rw [e, bR_ m i hi, bR_ m (i - 1) (by omega), wr64s i (by omega)]
      exact Ev_b v2 (Ev_t rfl (Ev_t (by omega) (Ev_t (by omega) (Ev_t (by omega) (Ev_t hc b2)))))
     ·obtain ⟨c1, c2, c3⟩ := b3 h
      refine ⟨c1, fun j h2 h3 hj => ?_, fun j h2 hj => ?_⟩
      ·rcases Nat.lt_or_eq_of_le h2 with g | g
       ·exact c2 j (by omega) h3 hj
       ·subst g
        have := (less_iff _ _).1 hc
        simpa only [fcE, Go.ByteArray.toList_eq] using this
      ·rcases Nat.lt_or_eq_of_le h2 with g | g
       ·exact c3 j (by omega) hj
       ·subst g; exact v3 rfl
    refine ⟨b, bi_ ?_, bi_ ?_, fun h => ?_⟩
    ·simp only [au_.l0]
     refine Ev_t (by omega) (Ev_t (by omega) ?_)
     rw [bR_ m i hi, wr64s i (by omega)]
     exact Ev_b v1 (Ev_t rfl (Ev_f (by omega) b1))
    ·simp only [am_.l0]
     refine Ev_t (by omega) (Ev_t (by omega) (Ev_t (by omega) ?_))
     rw [bR_ m i hi, wr64s i (by omega)]
     exact Ev_b v2 (Ev_t rfl (Ev_f (by omega) b2))
    ·obtain ⟨c1, c2, c3⟩ := b3 h
     refine ⟨c1, fun j h2 h3 hj => c2 j (by omega) h3 hj, fun j h2 hj => ?_⟩
     rcases Nat.lt_or_eq_of_le h2 with g | g
     ·exact c3 j (by omega) hj
     ·subst g; exact v3 rfl
 obtain ⟨b, b1, b2, b3⟩ := go m.length 0 (by omega)
 refine ⟨b, by simp only [au_.f]; exact b1, by simp only [am_.f]; exact b2, fun h => ?_⟩
 obtain ⟨c1, c2, c3⟩ := b3 h
 refine ⟨c1, fun i hi => c2 (i + 1) (by omega) (by omega) hi, fun y hy => ?_⟩
 obtain ⟨j, hj, rfl⟩ := List.mem_iff_getElem.1 hy
 exact c3 j (by omega) hj
theorem note_ev (x : ByteArray) (hx : (x.size : Int) ≤ 1048576) : ∃ b, Ev (fun k => bp_.f k x) b ∧ Ev (fun k => bm_.f k x) b := by
 have go : ∀ (d i : Nat), i + d = x.size → ∃ b, Ev (fun k => bp_.l0 k x i) b ∧ Ev (fun k => bm_.l0 k x i) b := by
  intro d
  induction d with
  | zero =>
   intro i h1
   refine ⟨decide ((x.size : Int) ≤ 20), bi_ ?_, bi_ ?_⟩
   ·simp only [bp_.l0]; exact Ev_f (by omega) (Ev_n rfl)
   ·simp only [bm_.l0]; exact Ev_f (by omega) (Ev_n rfl)
  | succ d ih =>
   intro i h1
   by_cases c1 : bt x i < 32
   rotate_left
   ·by_cases c2 : bt x i > 126
    rotate_left
    ·obtain ⟨b, b1, b2⟩ := ih (i + 1) (by omega)
     refine ⟨b, bi_ ?_, bi_ ?_⟩
     ·simp only [bp_.l0]; rw [wr64s i (by omega)]; exact Ev_t (by omega) (Ev_t (by omega) (Ev_f c1 (Ev_f c2 b1)))
     ·simp only [bm_.l0]; rw [wr64s i (by omega)]; exact Ev_t (by omega) (Ev_t (by omega) (Ev_f c1 (Ev_f c2 b2)))
    refine ⟨false, bi_ ?_, bi_ ?_⟩
    ·simp only [bp_.l0]; exact Ev_t (by omega) (Ev_t (by omega) (Ev_f c1 (Ev_t c2 (Ev_n rfl))))
    ·simp only [bm_.l0]; exact Ev_t (by omega) (Ev_t (by omega) (Ev_f c1 (Ev_t c2 (Ev_n rfl))))
   refine ⟨false, bi_ ?_, bi_ ?_⟩
   ·simp only [bp_.l0]; exact Ev_t (by omega) (Ev_t (by omega) (Ev_t c1 (Ev_n rfl)))
   ·simp only [bm_.l0]; exact Ev_t (by omega) (Ev_t (by omega) (Ev_t c1 (Ev_n rfl)))
 obtain ⟨b, b1, b2⟩ := go x.size 0 (by omega)
 exact ⟨b, by simp only [bp_.f]; exact b1, by simp only [bm_.f]; exact b2⟩
def Prj (m : List Ver) : Prop := m.length ≤ 16 ∧ ∀ (i : Nat) (hi : i < m.length), m[i].f0 = (i : Int) + 1 ∧ 0 ≤ m[i].f1 ∧ m[i].f1 ≤ i ∧ Sta m[i].f3
theorem project_ev (m : List Ver) (hl : (m.length : Int) ≤ 1048576) (hn : ∀ y ∈ m, (y.f2.size : Int) ≤ 1048576 ∧ (y.f3.length : Int) ≤ 1048576) : ∃ b, Ev (fun k => bG_.f k m) b ∧ Ev (fun k => aW_.f k m) b ∧ (b = true → Prj m) := by
 have go : ∀ (d i : Nat), i + d = m.length → ∃ b, Ev (fun k => bG_.l0 k m i) b ∧ Ev (fun k => aW_.l0 k m m (m.length : Int) i) b ∧ (b = true → m.length ≤ 16 ∧ ∀ (j : Nat), i ≤ j → ∀ (hj : j < m.length), m[j].f0 = (j : Int) + 1 ∧ 0 ≤ m[j].f1 ∧ m[j].f1 ≤ j ∧ Sta m[j].f3) := by
  intro d
  induction d with
  | zero =>
   intro i h1
   refine ⟨decide ((m.length : Int) ≤ 16), bi_ ?_, bi_ ?_, fun h => ⟨by have := of_decide_eq_true h; omega, fun j h2 hj => by omega⟩⟩
   ·simp only [bG_.l0]; exact Ev_f (by omega) (Ev_n rfl)
   ·simp only [aW_.l0]; exact Ev_f (by omega) (Ev_n rfl)
  | succ d ih =>
   intro i h1
   have hi : i < m.length := by omega
   obtain ⟨hs1, hs2⟩ := hn m[i] (List.getElem_mem _)
   have w := wr64s i (by omega)
   have step : ∀ b, Ev (fun n => if m[i].f0 = ((i + 1 : Nat) : Int) then (bX_.f m[i].f1 0 (i : Int)).bind fun t103 => (if t103 = true then ((bp_.f n m[i].f2).bind fun t104 => (if t104 = true then ((au_.f n m[i].f3).bind fun t105 => (if t105 = true then (bG_.l0 n m ((i + 1 : Nat) : Int)) else (some false))) else (some false))) else (some false)) else some false) b →
     Ev (fun n => if m[i].f0 = ((i + 1 : Nat) : Int) then (bx_.f m[i].f1 0 (i : Int)).bind fun t103 => (if t103 = true then ((bm_.f n m[i].f2).bind fun t104 => (if t104 = true then ((am_.f n m[i].f3).bind fun t105 => (if t105 = true then (aW_.l0 n m m (m.length : Int) ((i + 1 : Nat) : Int)) else (some false))) else (some false))) else (some false)) else some false) b →
     Ev (fun k => bG_.l0 k m i) b ∧ Ev (fun k => aW_.l0 k m m (m.length : Int) i) b := by
    intro b q1 q2
    constructor
    ·refine bi_ ?_
     simp only [bG_.l0]
     refine Ev_t (by omega) (Ev_t (by omega) ?_)
     rw [show ar_ m (i : Int) = m[i] from cC_ m i hi, w]
     exact q1
    ·refine bi_ ?_
     simp only [aW_.l0]
     refine Ev_t (by omega) (Ev_t (by omega) (Ev_t (by omega) ?_))
     rw [show ar_ m (i : Int) = m[i] from cC_ m i hi, w]
     exact q2
   by_cases c0 : m[i].f0 = ((i + 1 : Nat) : Int)
   case neg =>
    obtain ⟨s1, s2⟩ := step false (Ev_f c0 (Ev_n rfl)) (Ev_f c0 (Ev_n rfl))
    exact ⟨false, s1, s2, fun h => by cases h⟩
   have i1 := in_f m[i].f1 0 (i : Int)
   have i2 := within_f m[i].f1 0 (i : Int)
   by_cases c1 : (decide ((0 : Int) ≤ m[i].f1) && decide (m[i].f1 ≤ (i : Int))) = true
   case neg =>
    have c1' : (decide ((0 : Int) ≤ m[i].f1) && decide (m[i].f1 ≤ (i : Int))) = false := by simpa using c1
    rw [c1'] at i1 i2
    obtain ⟨s1, s2⟩ := step false (Ev_t c0 (Ev_b (Ev_c i1) (Ev_f (by decide) (Ev_n rfl)))) (Ev_t c0 (Ev_b (Ev_c i2) (Ev_f (by decide) (Ev_n rfl))))
    exact ⟨false, s1, s2, fun h => by cases h⟩
   rw [c1] at i1 i2
   simp only [Bool.and_eq_true, decide_eq_true_eq] at c1
   obtain ⟨nb, n1, n2⟩ := note_ev m[i].f2 hs1
   cases nb with
   | false =>
    obtain ⟨s1, s2⟩ := step false (Ev_t c0 (Ev_b (Ev_c i1) (Ev_t rfl (Ev_b n1 (Ev_f (by decide) (Ev_n rfl)))))) (Ev_t c0 (Ev_b (Ev_c i2) (Ev_t rfl (Ev_b n2 (Ev_f (by decide) (Ev_n rfl))))))
    exact ⟨false, s1, s2, fun h => by cases h⟩
   | true =>
    obtain ⟨sb, t1, t2, t3⟩ := state_ev m[i].f3 hs2
    cases sb with
    | false =>
     obtain ⟨s1, s2⟩ := step false (Ev_t c0 (Ev_b (Ev_c i1) (Ev_t rfl (Ev_b n1 (Ev_t rfl (Ev_b t1 (Ev_f (by decide) (Ev_n rfl)))))))) (Ev_t c0 (Ev_b (Ev_c i2) (Ev_t rfl (Ev_b n2 (Ev_t rfl (Ev_b t2 (Ev_f (by decide) (Ev_n rfl))))))))
     exact ⟨false, s1, s2, fun h => by cases h⟩
    | true =>
     obtain ⟨b, b1, b2, b3⟩ := ih (i + 1) (by omega)
     obtain ⟨s1, s2⟩ := step b (Ev_t c0 (Ev_b (Ev_c i1) (Ev_t rfl (Ev_b n1 (Ev_t rfl (Ev_b t1 (Ev_t rfl b1))))))) (Ev_t c0 (Ev_b (Ev_c i2) (Ev_t rfl (Ev_b n2 (Ev_t rfl (Ev_b t2 (Ev_t rfl b2)))))))
     refine ⟨b, s1, s2, fun h => ?_⟩
     obtain ⟨d1, d2⟩ := b3 h
     refine ⟨d1, fun j h2 hj => ?_⟩
     rcases Nat.lt_or_eq_of_le h2 with g | g
     ·exact d2 j (by omega) hj
     ·subst g; exact ⟨by omega, c1.1, c1.2, t3 rfl⟩
 obtain ⟨b, b1, b2, b3⟩ := go m.length 0 (by omega)
 refine ⟨b, by simp only [bG_.f]; exact b1, by simp only [aW_.f]; exact b2, fun h => ?_⟩
 obtain ⟨c1, c2⟩ := b3 h
 exact ⟨c1, fun i hi => c2 i (by omega) hi⟩
theorem ep_ev (a0 a1 : ByteArray) (a2 a3 : Int) (b : ByteArray) : cc_.f a0 a1 a2 a3 b = some (Go.Lib.compareBytes a0.data.toList b.data.toList) := by
 unfold cc_.f strings_Compare.f
 rfl
theorem keyE_iff (x : Ent) (u : ByteArray) : Go.Lib.compareBytes (fcE x) u.data.toList = 0 ↔ x.f0.toList = u.toList := by
 rw [cb_ord.zero]
 simp only [fcE, Go.ByteArray.toList_eq]
theorem bsE_ev (l : List Ent) (hl : (l.length : Int) ≤ 1048576) (u : ByteArray) (hr : Rsg (fun x => Go.Lib.compareBytes (fcE x) u.data.toList) l) :
  Ev (fun k => bo_.f k l u) (((plc (fun x => Go.Lib.compareBytes (fcE x) u.data.toList) l : Nat) : Int), fnd (fun x => Go.Lib.compareBytes (fcE x) u.data.toList) l) := by
 have hp0 := plc_le (fun x => Go.Lib.compareBytes (fcE x) u.data.toList) l
 have go : ∀ (d i j : Nat), j = i + d → i ≤ plc (fun x => Go.Lib.compareBytes (fcE x) u.data.toList) l → plc (fun x => Go.Lib.compareBytes (fcE x) u.data.toList) l ≤ j → j ≤ l.length → Ev (fun k => bo_.l0 k l u (l.length : Int) i j) (((plc (fun x => Go.Lib.compareBytes (fcE x) u.data.toList) l : Nat) : Int), fnd (fun x => Go.Lib.compareBytes (fcE x) u.data.toList) l) := by
  intro d
  induction d using Nat.strongRecOn with
  | _ d ih =>
  intro i j h1 h2 h3 h4
  refine bi_ ?_
  simp only [bo_.l0]
  by_cases hd : d = 0
  rotate_left
  ·refine Ev_t (by omega) ?_
   rw [mid_ev i j (by omega)]
   obtain ⟨m, hm⟩ : ∃ m, m = (i + j) / 2 := ⟨_, rfl⟩
   rw [← hm]
   have hm1 : m < l.length := by omega
   refine Ev_t (by omega) (Ev_t (by omega) ?_)
   rw [bR_ l m hm1, ep_ev]
   refine Ev_s ?_
   by_cases hc : Go.Lib.compareBytes l[m].f0.data.toList u.data.toList < 0
   rotate_left
   ·refine Ev_f hc ?_
    refine ih (m - i) (by omega) i m (by omega) h2 ?_ (by omega)
    rcases Nat.lt_or_ge m (plc (fun x => Go.Lib.compareBytes (fcE x) u.data.toList) l) with g | g
    ·exact absurd (plc_lt _ l m hm1 g) hc
    ·exact g
   refine Ev_t hc ?_
   rw [wr64s m (by omega)]
   refine ih (j - (m + 1)) (by omega) (m + 1) j (by omega) ?_ h3 h4
   rcases Nat.lt_or_ge m (plc (fun x => Go.Lib.compareBytes (fcE x) u.data.toList) l) with g | g
   ·exact g
   ·rcases Nat.lt_or_eq_of_le g with g | g
    ·have hgt : 0 < Go.Lib.compareBytes (fcE l[m]) u.data.toList := hr.gt m hm1 g
     have hc' : Go.Lib.compareBytes (fcE l[m]) u.data.toList < 0 := hc
     omega
    ·have := plc_at (fun x => Go.Lib.compareBytes (fcE x) u.data.toList) l (by omega)
     simp only [g] at this
     have hc' : Go.Lib.compareBytes (fcE l[m]) u.data.toList < 0 := hc
     omega
  refine Ev_f (by omega) ?_
  have hp : plc (fun x => Go.Lib.compareBytes (fcE x) u.data.toList) l = i := by omega
  by_cases hn : i < l.length
  rotate_left
  ·refine Ev_f (by omega) (Ev_n ?_)
   unfold fnd
   rw [dif_neg (by omega), hp]
  refine Ev_t (by omega) (Ev_t (by omega) (Ev_t (by omega) ?_))
  rw [bR_ l i hn, ep_ev]
  refine Ev_s (Ev_n ?_)
  unfold fnd
  rw [dif_pos (by omega)]
  simp only [hp]
  rfl
 simp only [bo_.f]
 exact go l.length 0 l.length (by omega) (by omega) hp0 (Nat.le_refl _)
theorem placeE_ev (l : List Ent) (hl : (l.length : Int) ≤ 1048576) (u : ByteArray) (hr : Rsg (fun x => Go.Lib.compareBytes (fcE x) u.data.toList) l) :
  Ev (fun k => cG_.f k l u) (((plc (fun x => Go.Lib.compareBytes (fcE x) u.data.toList) l : Nat) : Int), fnd (fun x => Go.Lib.compareBytes (fcE x) u.data.toList) l) := by
 simp only [cG_.f]
 exact Ev_b (bsE_ev l hl u hr) (Ev_n rfl)
theorem Sta.rsg {m : List Ent} (h : Sta m) (t : List UInt8) : Rsg (fun x => Go.Lib.compareBytes (fcE x) t) m := rsg_of cb_ord fcE h.2.1 t
theorem ven_ne {l : List UInt8} {a b : Int} (h : vVen l a b = true) : l ≠ [] := by
 intro e
 subst e
 simp [vVen, spi] at h
section
variable {α κ : Type} {c : κ → κ → Int} {key : α → κ}
theorem rsgG (ho : Ordr c) {l : List α} (h : l.Pairwise (fun x y => c (key x) (key y) < 0)) (t : κ) : Rsg (fun x => c (key x) t) l := by
 intro i j hi hj h0
 exact ho.step ((List.pairwise_iff_getElem.1 h) i j (by omega) hj hi) h0
def putG (c : κ → κ → Int) (key : α → κ) (l : List α) (b : α) : List α :=
 if fnd (fun x => c (key x) (key b)) l = true then l.take (plc (fun x => c (key x) (key b)) l) ++ b :: l.drop (plc (fun x => c (key x) (key b)) l + 1)
 else l.take (plc (fun x => c (key x) (key b)) l) ++ b :: l.drop (plc (fun x => c (key x) (key b)) l)
theorem aheadG {l : List α} {t : κ} {x : α} (h : x ∈ l.take (plc (fun x => c (key x) t) l)) : c (key x) t < 0 := by
 obtain ⟨i, hi, rfl⟩ := List.mem_iff_getElem.1 h
 rw [List.getElem_take]
 exact plc_lt (fun x => c (key x) t) l i (by simp at hi; omega) (by simp at hi; omega)
theorem behindG {l : List α} {t : κ} (hr : Rsg (fun x => c (key x) t) l) {x : α} (h : x ∈ l.drop (plc (fun x => c (key x) t) l + 1)) : 0 < c (key x) t := by
 obtain ⟨i, hi, rfl⟩ := List.mem_iff_getElem.1 h
 rw [List.getElem_drop]
 exact hr.gt _ (by simp at hi; omega) (by omega)
theorem putG_pw (ho : Ordr c) {l : List α} (h : l.Pairwise (fun x y => c (key x) (key y) < 0)) (b : α) : (putG c key l b).Pairwise (fun x y => c (key x) (key y) < 0) := by
 have hr := rsgG ho h (key b)
 have hp := plc_le (fun x => c (key x) (key b)) l
 have key' : ∀ q, (∀ x ∈ l.drop q, 0 < c (key x) (key b)) → plc (fun x => c (key x) (key b)) l ≤ q → (l.take (plc (fun x => c (key x) (key b)) l) ++ b :: l.drop q).Pairwise (fun x y => c (key x) (key y) < 0) := by
  intro q hq hle
  rw [List.pairwise_append]
  refine ⟨h.sublist (List.take_sublist _ _), ?_, ?_⟩
  ·rw [List.pairwise_cons]
   exact ⟨fun y hy => (ho.anti _ _).2 (hq y hy), h.sublist (List.drop_sublist _ _)⟩
  ·intro x hx y hy
   have hx0 := aheadG hx
   rcases List.mem_cons.1 hy with e | e
   ·subst e; exact hx0
   ·exact ho.trans _ _ _ hx0 ((ho.anti _ _).2 (hq y e))
 unfold putG
 split
 ·exact key' _ (fun x hx => behindG hr hx) (by omega)
 ·rename_i hf
  refine key' _ (fun x hx => ?_) (Nat.le_refl _)
  obtain ⟨i, hi, rfl⟩ := List.mem_iff_getElem.1 hx
  rw [List.getElem_drop]
  simp at hi
  have hn := fnd_f hr (by simpa using hf) (plc (fun x => c (key x) (key b)) l + i) (by omega)
  rcases Nat.eq_zero_or_pos i with g | g
  ·subst g
   have := plc_at (fun x => c (key x) (key b)) l (by omega)
   simp only [Nat.add_zero] at hn ⊢
   omega
  ·exact hr.gt _ (by omega) (by omega)
theorem putG_len (l : List α) (b : α) : (putG c key l b).length ≤ l.length + 1 ∧ (fnd (fun x => c (key x) (key b)) l = true → (putG c key l b).length = l.length) ∧ (fnd (fun x => c (key x) (key b)) l = false → (putG c key l b).length = l.length + 1) := by
 have hp := plc_le (fun x => c (key x) (key b)) l
 unfold putG
 cases hf : fnd (fun x => c (key x) (key b)) l with
 | true =>
  obtain ⟨h1, _⟩ := fnd_t hf
  simp
  omega
 | false =>
  simp
  omega
end
end Go.Proofs.Ytiheginanghhjaa.Q
namespace Go.Proofs.Ytiheginanghhjaa.Q
open Go.RowKit Go.Proofs.YtiheginanghhjaaW.PrintWords Go.Proofs.YtiheginanghhjaaW.PrintLast Go.Proofs.YtiheginanghhjaaW.PrintMore
abbrev risE (l : List Ent) : Prop := l.Pairwise (fun x y => Go.Lib.compareBytes (fcE x) (fcE y) < 0)
abbrev putE (l : List Ent) (b : Ent) : List Ent := putG Go.Lib.compareBytes fcE l b
theorem setE_ev (l : List Ent) (hl : (l.length : Int) ≤ 1048576) (b : Ent) (hr : Rsg (fun x => Go.Lib.compareBytes (fcE x) (fcE b)) l) : Ev (fun k => aX_.f k l b.f0 b.f1.f0 b.f1.f1 b.f1.f2) (putE l b) := by
 obtain ⟨c, hc⟩ : ∃ c, c = (fun x => Go.Lib.compareBytes (fcE x) (fcE b)) := ⟨_, rfl⟩
 unfold putE putG
 rw [← hc] at hr ⊢
 have key : ∀ x, c x = 0 ↔ x.f0.toList = b.f0.toList := fun x => by rw [hc]; exact keyE_iff x b.f0
 have cEq : ∀ y : Ent, Op.bytesLess y.f0.toList b.f0.toList = decide (c y < 0) := fun y => by
  rw [hc]
  have := less_iff y.f0.toList b.f0.toList
  simp only [fcE, Go.ByteArray.toList_eq] at this ⊢
  cases hb : Op.bytesLess y.f0.data.toList b.f0.data.toList with
  | true => exact (decide_eq_true (this.1 hb)).symm
  | false => exact (decide_eq_false (fun h => by rw [this.2 h] at hb; cases hb)).symm
 have hb : ∀ y : Ent, (⟨y.f0, (⟨y.f1.f0, y.f1.f1, y.f1.f2⟩ : S61)⟩ : Ent) = y := fun y => rfl
 have two : ∀ (d i : Nat) (out : List Ent), i + d = l.length → plc c l < i → out.length ≤ i + 1 → Ev (fun k => aX_.l0 k l out true i b.f0 b.f1.f0 b.f1.f1 b.f1.f2) (out ++ l.drop i) := by
  intro d
  induction d with
  | zero =>
   intro i out h1 h2 h3
   refine bi_ ?_
   simp only [aX_.l0]
   rw [List.drop_of_length_le (by omega), List.append_nil]
   exact Ev_f (by omega) (Ev_t (by first | exact True.intro | rfl) (Ev_n rfl))
  | succ d ih =>
   intro i out h1 h2 h3
   refine bi_ ?_
   simp only [aX_.l0]
   refine Ev_t (by omega) (Ev_t (by first | exact True.intro | rfl) (bi_ ?_))
   simp only [aX_.j1]
   refine Ev_f (by decide) (Ev_t (by omega) (Ev_t (by omega) ?_))
   rw [bR_ l i (by omega), wr64s i (by omega), List.drop_eq_getElem_cons (show i < l.length by omega), hb]
   have hn : c l[i] ≠ 0 := by have := hr.gt i (by omega) h2; omega
   have nxt := ih (i + 1) (out ++ [l[i]]) (by omega) (by omega) (by simp; omega)
   rw [List.append_assoc, List.singleton_append] at nxt
   exact Ev_f (fun e0 => hn ((key _).2 e0)) (Ev_t (by omega) nxt)
 have one : ∀ (d i : Nat), i + d = plc c l → Ev (fun k => aX_.l0 k l (l.take i) false i b.f0 b.f1.f0 b.f1.f1 b.f1.f2) (if fnd c l = true then l.take (plc c l) ++ b :: l.drop (plc c l + 1) else l.take (plc c l) ++ b :: l.drop (plc c l)) := by
  have hp0 := plc_le c l
  intro d
  induction d with
  | zero =>
   intro i h1
   have h1' : i = plc c l := by omega
   subst h1'
   refine bi_ ?_
   simp only [aX_.l0]
   have hlen : (l.take (plc c l)).length = plc c l := by simp; omega
   by_cases hn : plc c l < l.length
   rotate_left
   ·have hf : ¬ fnd c l = true := by unfold fnd; rw [dif_neg hn]; decide
    rw [if_neg hf, List.drop_of_length_le (by omega)]
    exact Ev_f (by omega) (Ev_f (by decide) (Ev_t (by omega) (Ev_n rfl)))
   refine Ev_t (by omega) (Ev_f (by decide) (Ev_t (by omega) (bi_ ?_)))
   rw [bR_ l _ hn, cEq]
   have h0 := plc_at c l hn
   simp only [aX_.j1]
   refine Ev_t (by simpa using h0) (Ev_t (by omega) (Ev_s (Ev_t (by omega) (Ev_t (by omega) ?_))))
   rw [bR_ l _ hn, hb, hb, wr64s _ (by omega)]
   have more : ∀ out : List Ent, out.length ≤ plc c l + 2 → Ev (fun k => aX_.l0 k l out true ((plc c l + 1 : Nat) : Int) b.f0 b.f1.f0 b.f1.f1 b.f1.f2) (out ++ l.drop (plc c l + 1)) := fun out ho =>
    two (l.length - (plc c l + 1)) (plc c l + 1) out (by omega) (by omega) ho
   by_cases hz : c l[plc c l] = 0
   rotate_left
   ·have hf : ¬ fnd c l = true := by unfold fnd; rw [dif_pos hn]; simpa using hz
    rw [if_neg hf]
    refine Ev_f (fun e0 => hz ((key _).2 e0)) (Ev_t (by simp; omega) ?_)
    refine Ev_at (more (l.take (plc c l) ++ [b] ++ [l[plc c l]]) (by simp; omega)) ?_
    rw [List.append_assoc, List.append_assoc, List.singleton_append, List.singleton_append, List.getElem_cons_drop]
   have hf : fnd c l = true := by unfold fnd; rw [dif_pos hn]; simpa using hz
   rw [if_pos hf]
   refine Ev_t ((key _).1 hz) ?_
   refine Ev_at (more _ (by simp; omega)) ?_
   rw [List.append_assoc, List.singleton_append]
  | succ d ih =>
   intro i h1
   have hi : i < l.length := by omega
   have hlen : (l.take i).length = i := by simp; omega
   refine bi_ ?_
   simp only [aX_.l0]
   refine Ev_t (by omega) (Ev_f (by decide) (Ev_t (by omega) (bi_ ?_)))
   rw [bR_ l i hi, cEq]
   have h0 := plc_lt c l i hi (by omega)
   simp only [aX_.j1]
   refine Ev_f (by simpa using h0) (Ev_t (by omega) (Ev_t (by omega) ?_))
   rw [bR_ l i hi, hb, wr64s i (by omega)]
   have nxt := ih (i + 1) (by omega)
   rw [List.take_succ_eq_append_getElem hi] at nxt
   exact Ev_f (fun e0 => by have := (key _).2 e0; omega) (Ev_t (by omega) nxt)
 simp only [aX_.f]
 exact one (plc c l) 0 (by omega)
theorem fs_lt : ∀ a b : List UInt8, a < b ↔ Go.Lib.compareBytes a b < 0
 | [], [] => by simp [Go.Lib.compareBytes]
 | [], _ :: _ => by simp [Go.Lib.compareBytes]
 | _ :: _, [] => by simp [Go.Lib.compareBytes]
 | x :: a, y :: b => by
  have ih := fs_lt a b
  rw [List.cons_lt_cons_iff]
  simp only [Go.Lib.compareBytes]
  by_cases h1 : x < y
  rotate_left
  ·by_cases h2 : y < x
   rotate_left
   ·have : x = y := UInt8.le_antisymm (UInt8.not_lt.1 h2) (UInt8.not_lt.1 h1)
    subst this
    simp [h1, ih]
   have : x ≠ y := fun e => by subst e; exact h1 h2
   simp [h1, h2, this]
  simp [h1]
theorem fs_le (l : List (List UInt8)) : (l.mergeSort fun x y => decide (x ≤ y)).Pairwise (fun x y => x ≤ y) := by
 have := List.pairwise_mergeSort (le := fun x y : List UInt8 => decide (x ≤ y)) (fun a b c h1 h2 => by simp only [decide_eq_true_eq] at *; exact List.le_trans h1 h2) (fun a b => by simp only [Bool.or_eq_true, decide_eq_true_eq]; exact List.le_total a b) l
 exact this.imp (fun h => by simpa using h)
theorem fs_pw (zs : List (List UInt8)) (h : zs.Pairwise (fun x y => x ≤ y)) : (Go.Lib.compact zs).Pairwise (fun x y => x < y) := by
 unfold Go.Lib.compact Go.Lib.compactUpTo
 rw [List.pairwise_map]
 refine List.Pairwise.imp_of_mem (R := fun i j => i < j) (fun {i j} hi hj hij => ?_) ((List.pairwise_lt_range (n := zs.length)).sublist List.filter_sublist)
 obtain ⟨hj1, hj2⟩ := List.mem_filter.1 hj
 have hj1 := List.mem_range.1 hj1
 simp only [Go.Lib.keeps, decide_eq_true_eq] at hj2
 have g := List.pairwise_iff_getElem.1 h
 have e : ∀ q (hq : q < zs.length), zs.toArray[q]! = zs[q] := fun q hq => by simp [getElem!_pos, hq]
 rw [e j hj1, e (j - 1) (by omega)] at hj2
 rw [e j hj1, e i (by omega)]
 have h2 : zs[j - 1] < zs[j] := by
  have l1 := g (j - 1) j (by omega) hj1 (by omega)
  have ne : zs[j - 1] ≠ zs[j] := fun q => by rcases hj2 with r | r; omega; exact r q.symm
  exact Decidable.byContradiction fun hn => ne (List.le_antisymm l1 hn)
 by_cases hij2 : i = j - 1
 rotate_left
 ·exact Decidable.byContradiction fun hn => absurd (List.le_trans (List.not_lt.1 hn) (g i (j - 1) (by omega) (by omega) (by omega))) (fun hle => hle h2)
 subst hij2; exact h2
theorem fs_mem (zs : List (List UInt8)) (x : List UInt8) : x ∈ Go.Lib.compact zs ↔ x ∈ zs := by
 unfold Go.Lib.compact Go.Lib.compactUpTo
 have e : ∀ q (hq : q < zs.length), zs.toArray[q]! = zs[q] := fun q hq => by simp [getElem!_pos, hq]
 constructor
 ·intro h
  obtain ⟨j, hj, rfl⟩ := List.mem_map.1 h
  have := List.mem_range.1 (List.mem_filter.1 hj).1
  rw [e j this]
  exact List.getElem_mem _
 ·intro h
  obtain ⟨j, hj, rfl⟩ := List.mem_iff_getElem.1 h
  clear h
  induction j with
  | zero => exact List.mem_map.2 ⟨0, List.mem_filter.2 ⟨List.mem_range.2 hj, by simp [Go.Lib.keeps]⟩, e 0 hj⟩
  | succ j ih =>
   by_cases hk : Go.Lib.keeps zs.toArray (j + 1) = true
   rotate_left
   ·have : zs[j + 1] = zs[j] := by
     have h3 := hk
     simp only [Go.Lib.keeps, decide_eq_true_eq] at h3
     rw [e _ hj, e (j + 1 - 1) (by omega)] at h3
     have := fun q => h3 (.inr q)
     simpa using this
    rw [this]
    exact ih (by omega)
   exact List.mem_map.2 ⟨j + 1, List.mem_filter.2 ⟨List.mem_range.2 hj, hk⟩, e _ hj⟩
theorem fs_uniq : ∀ (a b : List (List UInt8)), a.Pairwise (fun x y => x < y) → b.Pairwise (fun x y => x < y) → (∀ x, x ∈ a ↔ x ∈ b) → a = b
 | [], [], _, _, _ => rfl
 | [], y :: b, _, _, h => by have := (h y).2 (by simp); simp at this
 | x :: a, [], _, _, h => by have := (h x).1 (by simp); simp at this
 | x :: a, y :: b, ha, hb, h => by
  rw [List.pairwise_cons] at ha hb
  have irr : ∀ z : List UInt8, ¬ z < z := fun z => List.lt_irrefl z
  have tr : ∀ p q r : List UInt8, p < q → q < r → p < r := fun p q r => List.lt_trans
  have e : x = y := by
   rcases List.mem_cons.1 ((h x).1 (by simp)) with q | q
   ·exact q
   ·rcases List.mem_cons.1 ((h y).2 (by simp)) with r | r
    ·exact r.symm
    ·exact absurd (tr _ _ _ (ha.1 y r) (hb.1 x q)) (irr _)
  subst e
  rw [fs_uniq a b ha.2 hb.2 (fun z => ?_)]
  constructor
  ·intro hz
   rcases List.mem_cons.1 ((h z).1 (by simp [hz])) with q | q
   ·subst q; exact absurd (ha.1 z hz) (irr _)
   ·exact q
  ·intro hz
   rcases List.mem_cons.1 ((h z).2 (by simp [hz])) with q | q
   ·subst q; exact absurd (hb.1 z hz) (irr _)
   ·exact q
abbrev bL (u : ByteArray) : List UInt8 := u.data.toList
theorem bL_inj {u v : ByteArray} (h : bL u = bL v) : u = v := by
 cases u with | mk a => cases v with | mk b => cases a; cases b; simp only [bL] at h; subst h; rfl
theorem map_bL_inj : ∀ {a b : List ByteArray}, a.map bL = b.map bL → a = b
 | [], [], _ => rfl
 | [], _ :: _, h => by simp at h
 | _ :: _, [], h => by simp at h
 | x :: a, y :: b, h => by
  simp only [List.map_cons, List.cons.injEq] at h
  rw [bL_inj h.1, map_bL_inj h.2]
def fcs (l : List ByteArray) : List ByteArray := aA_.cmp (ax_.srt l)
theorem fcs_map (l : List ByteArray) : (fcs l).map bL = Go.Lib.compact ((l.map bL).mergeSort fun x y => decide (x ≤ y)) := by
 have h1 : ∀ q : List (List UInt8), (q.map fun b => (⟨b.toArray⟩ : ByteArray)).map bL = q := fun q => by
  rw [List.map_map]; simp [bL, Function.comp_def]
 have h2 : (ax_.srt l).map bL = (l.map bL).mergeSort fun x y => decide (x ≤ y) := h1 _
 have h3 : (fcs l).map bL = Go.Lib.compact ((ax_.srt l).map bL) := h1 _
 rw [h3, h2]
theorem fcs_pw (l : List ByteArray) : ((fcs l).map bL).Pairwise (fun x y => x < y) := by
 rw [fcs_map]
 exact fs_pw _ (fs_le _)
theorem fcs_memb (l : List ByteArray) (x : List UInt8) : x ∈ (fcs l).map bL ↔ x ∈ l.map bL := by
 rw [fcs_map, fs_mem, List.mem_mergeSort]
theorem fcs_mem (l : List ByteArray) (u : ByteArray) : u ∈ fcs l ↔ u ∈ l := by
 have h : ∀ q : List ByteArray, u ∈ q ↔ bL u ∈ q.map bL := fun q => ⟨fun h => List.mem_map.2 ⟨u, h, rfl⟩, fun h => by obtain ⟨v, hv, e⟩ := List.mem_map.1 h; rw [← bL_inj e]; exact hv⟩
 rw [h, h, fcs_memb]
theorem fcs_len (l : List ByteArray) : (fcs l).length ≤ l.length := by
 have h1 : (fcs l).length = ((fcs l).map bL).length := by simp
 rw [h1, fcs_map]
 unfold Go.Lib.compact Go.Lib.compactUpTo
 rw [List.length_map]
 exact Nat.le_trans (List.length_filter_le _ _) (by simp)
theorem faces_ev (L : List (List Ent)) (hL : L.length ≤ 3) (hs : ∀ s ∈ L, s.length ≤ 24) : Ev (fun k => ba_.f k L) (fcs (L.flatten.map (·.f0))) := by
 have inner : ∀ (i : Nat) (s : List Ent) (r : List ByteArray), s.length ≤ 24 → i < 3 → ∀ (d j : Nat) (out : List ByteArray), j + d = s.length → out.length ≤ 1000 + j → Ev (fun k => ba_.l0 k (out ++ (s.drop j).map (·.f0)) L (L.length : Int) ((i + 1 : Nat) : Int)) r → Ev (fun k => ba_.l1 k out L (L.length : Int) i s (s.length : Int) j) r := by
  intro i s r hs hi d
  induction d with
  | zero =>
   intro j out h1 h2 h3
   refine bi_ ?_
   simp only [ba_.l1]
   rw [List.drop_of_length_le (by omega)] at h3
   simp only [List.map_nil, List.append_nil] at h3
   rw [wr64s i (by omega)]
   exact Ev_f (by omega) h3
  | succ d ih =>
   intro j out h1 h2 h3
   refine bi_ ?_
   simp only [ba_.l1]
   rw [wr64s j (by omega), bR_ s j (by omega)]
   refine Ev_t (by omega) (Ev_t (by omega) (Ev_t (by omega) (Ev_t (by omega) (ih (j + 1) _ (by omega) (by simp; omega) ?_))))
   rw [List.drop_eq_getElem_cons (show j < s.length by omega), List.map_cons] at h3
   rw [List.append_assoc, List.singleton_append]
   exact h3
 have outer : ∀ (d i : Nat) (out : List ByteArray), i + d = L.length → out.length ≤ 24 * i → Ev (fun k => ba_.l0 k out L (L.length : Int) i) (fcs (out ++ (L.drop i).flatten.map (·.f0))) := by
  intro d
  induction d with
  | zero =>
   intro i out h1 h2
   refine bi_ ?_
   simp only [ba_.l0]
   rw [List.drop_of_length_le (by omega)]
   simp only [List.flatten_nil, List.map_nil, List.append_nil]
   have hl : (ax_.srt out).length = out.length := by simp [ax_.srt]
   refine Ev_f (by omega) (Ev_b (a := ax_.srt out) (Ev_c ?_) (Ev_b (a := fcs out) (Ev_c ?_) (Ev_n rfl)))
   ·unfold ax_.f; rw [if_pos (by omega)]
   ·unfold aA_.f; rw [if_pos (by omega)]; rfl
  | succ d ih =>
   intro i out h1 h2
   refine bi_ ?_
   simp only [ba_.l0]
   have hi : i < L.length := by omega
   have hr : rd_L7 L (i : Int) = L[i] := getD_in L _ i hi
   have h24 := hs L[i] (List.getElem_mem _)
   rw [hr]
   refine Ev_t (by omega) (Ev_t (by omega) (Ev_t (by omega) (inner i L[i] _ h24 (by omega) L[i].length 0 out (by omega) (by omega) ?_)))
   rw [List.drop_zero]
   have := ih (i + 1) (out ++ L[i].map (·.f0)) (by omega) (by simp; omega)
   rw [List.append_assoc, ← List.map_append, ← List.flatten_cons, List.getElem_cons_drop] at this
   exact this
 simp only [ba_.f]
 exact outer L.length 0 [] (by omega) (by simp)
def zE : Ent := ⟨(⟨#[]⟩ : ByteArray), ⟨(⟨#[]⟩ : ByteArray), 0, 0⟩⟩
def gE (m : List Ent) (u : ByteArray) : Ent := if fnd (fun x => Go.Lib.compareBytes (fcE x) u.data.toList) m = true then m.getD (plc (fun x => Go.Lib.compareBytes (fcE x) u.data.toList) m) zE else zE
def Stn (m : List Ent) : Prop := Sta m ∧ ∀ y ∈ m, y.f0.toList ≠ []
theorem name_ne (k : Nat) (x : ByteArray) (h : aM_.f k x = some true) : x.toList ≠ [] := by
 intro e
 simp only [aM_.f] at h
 rw [if_pos e] at h
 cases k with
 | zero => simp [aM_.j0] at h
 | succ k => simp [aM_.j0] at h
theorem state_ne (m : List Ent) : ∀ (k i : Nat), au_.l0 k m i = some true → ∀ (j : Nat) (hj : j < m.length), i ≤ j → m.length < 1000000 → m[j].f0.toList ≠ []
 | 0, i, h, _, _, _, _ => by simp [au_.l0] at h
 | k + 1, i, h, j, hj, hij, hm => by
  simp only [au_.l0] at h
  rw [if_pos (by omega), if_pos (by omega), wr64s i (by omega), bR_ m i (by omega)] at h
  obtain ⟨t, h1, h2⟩ := Option.bind_eq_some_iff.1 h
  cases t with
  | false => simp at h2
  | true =>
   rw [if_pos rfl] at h2
   have nx : au_.l0 k m ((i + 1 : Nat) : Int) = some true := by
    split at h2
    ·split at h2
     ·split at h2
      ·split at h2
       ·exact h2
       ·simp at h2
      ·cases h2
     ·cases h2
    ·exact h2
   have hn : m[i].f0.toList ≠ [] := by
    have r0 : af_ [m[i]'(by omega)] 0 = m[i]'(by omega) := rfl
    simp only [ce_.f, r0] at h1
    rw [if_pos (by simp)] at h1
    obtain ⟨t2, g1, g2⟩ := Option.bind_eq_some_iff.1 h1
    cases t2 with
    | false => simp at g2
    | true => exact name_ne k _ g1
   rcases Nat.lt_or_eq_of_le hij with g | g
   ·exact state_ne m k (i + 1) nx j hj (by omega) hm
   ·subst g; exact hn
theorem stateN_ev (m : List Ent) (hl : (m.length : Int) ≤ 1048576) : ∃ b, Ev (fun k => au_.f k m) b ∧ Ev (fun k => am_.f k m) b ∧ (b = true → Stn m) := by
 obtain ⟨b, h1, h2, h3⟩ := state_ev m hl
 refine ⟨b, h1, h2, fun hb => ?_⟩
 subst hb
 obtain ⟨K, hK⟩ := h1
 have hk := hK K (Nat.le_refl _)
 simp only [au_.f] at hk
 refine ⟨h3 rfl, fun y hy => ?_⟩
 obtain ⟨j, hj, rfl⟩ := List.mem_iff_getElem.1 hy
 have := (h3 rfl).1
 exact state_ne m K 0 hk j hj (by omega) (by omega)
theorem gE_at (m : List Ent) (u : ByteArray) (h : fnd (fun x => Go.Lib.compareBytes (fcE x) u.data.toList) m = true) : ∃ hp : plc (fun x => Go.Lib.compareBytes (fcE x) u.data.toList) m < m.length, gE m u = m[plc (fun x => Go.Lib.compareBytes (fcE x) u.data.toList) m]'hp ∧ fcE (m[plc (fun x => Go.Lib.compareBytes (fcE x) u.data.toList) m]'hp) = u.data.toList := by
 obtain ⟨hp, h0⟩ := fnd_t h
 refine ⟨hp, ?_, (cb_ord.zero _ _).1 h0⟩
 unfold gE
 rw [if_pos h]
 simp [List.getD, hp]
theorem getI_ev (m : List Ent) (hs : Sta m) (u : ByteArray) : Ev (fun k => bF_.f k m u) ((gE m u).f1.f0, (gE m u).f1.f1, (gE m u).f1.f2) := by
 have h24 := hs.1
 have f2 := placeE_ev m (by omega) u (hs.rsg _)
 simp only [bF_.f]
 cases hf : fnd (fun x => Go.Lib.compareBytes (fcE x) u.data.toList) m with
 | false =>
  rw [hf] at f2
  have e : gE m u = zE := by unfold gE; rw [hf]; rfl
  rw [e]
  exact Ev_b f2 (Ev_f (by simp) (Ev_n rfl))
 | true =>
  obtain ⟨hp, e, _⟩ := gE_at m u hf
  rw [hf] at f2
  refine Ev_b f2 (Ev_t rfl (Ev_t (by show (0 : Int) ≤ _; omega) (Ev_t (by show _ < (m.length : Int); omega) (Ev_n ?_))))
  simp only
  rw [e, bR_ m _ hp]
theorem gE_cases (m : List Ent) (hs : Stn m) (u : ByteArray) : (gE m u = zE ∧ u ∉ m.map (·.f0)) ∨ ((gE m u).f0 = u ∧ (gE m u).f1.f0.toList ≠ [] ∧ u.toList ≠ [] ∧ u ∈ m.map (·.f0)) := by
 cases hf : fnd (fun x => Go.Lib.compareBytes (fcE x) u.data.toList) m with
 | false =>
  refine .inl ⟨by unfold gE; rw [hf]; rfl, fun h => ?_⟩
  obtain ⟨y, hy, e⟩ := List.mem_map.1 h
  obtain ⟨i, hi, rfl⟩ := List.mem_iff_getElem.1 hy
  have := fnd_f (hs.1.rsg u.data.toList) hf i hi
  apply this
  rw [cb_ord.zero]
  simp only [fcE]
  rw [← e]
 | true =>
  obtain ⟨hp, e, h0⟩ := gE_at m u hf
  have e2 : (m[plc (fun x => Go.Lib.compareBytes (fcE x) u.data.toList) m]'hp).f0 = u := bL_inj h0
  rw [e]
  refine .inr ⟨e2, ven_ne (hs.1.2.2 _ (List.getElem_mem _)), ?_, List.mem_map.2 ⟨_, List.getElem_mem hp, e2⟩⟩
  rw [← e2]
  exact hs.2 _ (List.getElem_mem _)
def dE (x y : Ent) : Bool := (!(x.f0.toList == y.f0.toList) || ((!(x.f1.f0.toList == y.f1.f0.toList) || (!(x.f1.f1 == y.f1.f1) || (!(x.f1.f2 == y.f1.f2))))))
def dV (x y : Ent) : Bool := (!(x.f1.f0.toList == y.f1.f0.toList) || (!(x.f1.f1 == y.f1.f1) || (!(x.f1.f2 == y.f1.f2))))
theorem dE_comm (x y : Ent) : dE x y = dE y x := by
 have h1 : (x.f0.toList == y.f0.toList) = (y.f0.toList == x.f0.toList) := Bool.beq_comm
 have h2 : (x.f1.f0.toList == y.f1.f0.toList) = (y.f1.f0.toList == x.f1.f0.toList) := Bool.beq_comm
 have h3 : (x.f1.f1 == y.f1.f1) = (y.f1.f1 == x.f1.f1) := Bool.beq_comm
 have h4 : (x.f1.f2 == y.f1.f2) = (y.f1.f2 == x.f1.f2) := Bool.beq_comm
 unfold dE
 rw [h1, h2, h3, h4]
theorem zt : (zE.f0.toList = []) ∧ (zE.f1.f0.toList = []) := by
 constructor <;> (show (⟨#[]⟩ : ByteArray).toList = []; rw [Go.ByteArray.toList_eq])
theorem dV_eq (m n : List Ent) (hm : Stn m) (hn : Stn n) (u : ByteArray) : dV (gE m u) (gE n u) = dE (gE m u) (gE n u) := by
 rcases gE_cases m hm u with ⟨a, _⟩ | ⟨a1, a2, a3, _⟩
 ·rcases gE_cases n hn u with ⟨b, _⟩ | ⟨b1, b2, b3, _⟩
  ·rw [a, b]; simp [dV, dE]
  ·rw [a]
   have h : dV zE (gE n u) = true := by simp [dV, zt.2, b2]
   have h2 : dE zE (gE n u) = true := by simp [dE, zt.1, b1, b3]
   rw [h, h2]
 ·rcases gE_cases n hn u with ⟨b, _⟩ | ⟨b1, b2, b3, _⟩
  ·rw [b]
   have h : dV (gE m u) zE = true := by simp [dV, zt.2, a2]
   have h2 : dE (gE m u) zE = true := by simp [dE, zt.1, a1, a3]
   rw [h, h2]
  ·simp [dV, dE, a1, b1]
def clE (base a b : List Ent) (u : ByteArray) : Bool := dE (gE base u) (gE a u) && (dE (gE base u) (gE b u) && dE (gE a u) (gE b u))
theorem rdB (l : List ByteArray) (i : Nat) (h : i < l.length) : rdOf ByteArray.empty l (i : Int) = l[i] := getD_in l _ i h
theorem iclash_ev (base a b : List Ent) (h0 : Stn base) (h1 : Stn a) (h2 : Stn b) : Ev (fun k => av_.j0 k base a b false) ((fcs ((base ++ a ++ b).map (·.f0))).filter (clE base a b), 0) := by
 have l0 := h0.1.1
 have l1 := h1.1.1
 have l2 := h2.1.1
 have f := faces_ev [base, a, b] (by simp) (by simp; omega)
 have fe : [base, a, b].flatten = base ++ a ++ b := by simp
 rw [fe] at f
 have fl := fcs_len ((base ++ a ++ b).map (·.f0))
 simp only [List.length_map, List.length_append] at fl
 generalize fcs ((base ++ a ++ b).map (·.f0)) = F at f fl
 have go : ∀ (d i : Nat) (out : List ByteArray), i + d = F.length → out.length ≤ i → Ev (fun k => av_.l0 k base a b out F (F.length : Int) i) (out ++ (F.drop i).filter (clE base a b), 0) := by
  intro d
  induction d with
  | zero =>
   intro i out g1 g2
   refine bi_ ?_
   simp only [av_.l0]
   rw [List.drop_of_length_le (by omega), List.filter_nil, List.append_nil]
   exact Ev_f (by omega) (Ev_n rfl)
  | succ d ih =>
   intro i out g1 g2
   refine bi_ ?_
   simp only [av_.l0]
   have hi : i < F.length := by omega
   rw [rdB F i hi, wr64s i (by omega), List.drop_eq_getElem_cons hi]
   refine Ev_t (by omega) (Ev_t (by omega) (Ev_t (by omega) (Ev_b (getI_ev base h0.1 F[i]) (Ev_b (getI_ev a h1.1 F[i]) (Ev_b (getI_ev b h2.1 F[i]) ?_)))))
   have skip : clE base a b F[i] = false → Ev (fun k => av_.l0 k base a b out F (F.length : Int) ((i + 1 : Nat) : Int)) (out ++ (F[i] :: F.drop (i + 1)).filter (clE base a b), 0) := fun hc => by
    rw [List.filter_cons_of_neg (by rw [hc]; decide)]
    exact ih (i + 1) out (by omega) (by omega)
   have e1 := dV_eq a b h1 h2 F[i]
   have e2 := (dV_eq a base h1 h0 F[i]).trans (dE_comm _ _)
   have e3 := (dV_eq b base h2 h0 F[i]).trans (dE_comm _ _)
   by_cases c1 : dV (gE a F[i]) (gE b F[i]) = true
   rotate_left
   ·refine Ev_f c1 (skip ?_)
    rw [e1] at c1
    simp [clE, c1]
   refine Ev_t c1 ?_
   rw [e1] at c1
   by_cases c2 : dV (gE a F[i]) (gE base F[i]) = true
   rotate_left
   ·refine Ev_f c2 (skip ?_)
    rw [e2] at c2
    simp [clE, c2]
   refine Ev_t c2 ?_
   rw [e2] at c2
   by_cases c3 : dV (gE b F[i]) (gE base F[i]) = true
   rotate_left
   ·refine Ev_f c3 (skip ?_)
    rw [e3] at c3
    simp [clE, c3]
   refine Ev_t c3 (Ev_t (by omega) ?_)
   rw [e3] at c3
   rw [List.filter_cons_of_pos (by simp [clE, c1, c2, c3])]
   have := ih (i + 1) (out ++ [F[i]]) (by omega) (by simp; omega)
   rwa [List.append_assoc, List.singleton_append] at this
 refine bi_ ?_
 simp only [av_.j0]
 refine Ev_f (by decide) (Ev_b f ?_)
 have := go F.length 0 [] (by omega) (by simp)
 rwa [List.drop_zero, List.nil_append] at this
theorem dV_sV (x y : Ent) : (x.f1.f0.toList == y.f1.f0.toList && (x.f1.f1 == y.f1.f1 && (x.f1.f2 == y.f1.f2))) = !dV x y := by
 unfold dV
 simp only [Bool.not_or, Bool.not_not]
def pkE (base a b : List Ent) (u : ByteArray) : Ent := if dE (gE a u) (gE base u) = true then gE a u else gE b u
def mgE (base a b : List Ent) (u : ByteArray) : List Ent := if (pkE base a b u).f0.toList = [] then [] else [pkE base a b u]
theorem mg_len (base a b : List Ent) (u : ByteArray) : (mgE base a b u).length ≤ 1 := by unfold mgE; split <;> simp
theorem pk_cases (base a b : List Ent) (h1 : Stn a) (h2 : Stn b) (u : ByteArray) : pkE base a b u = zE ∨ ((pkE base a b u).f0 = u ∧ (pkE base a b u).f1.f0.toList ≠ [] ∧ u.toList ≠ [] ∧ (u ∈ a.map (·.f0) ∨ u ∈ b.map (·.f0))) := by
 unfold pkE
 split
 ·rcases gE_cases a h1 u with ⟨h, _⟩ | ⟨q1, q2, q3, q4⟩
  ·exact .inl h
  ·exact .inr ⟨q1, q2, q3, .inl q4⟩
 ·rcases gE_cases b h2 u with ⟨h, _⟩ | ⟨q1, q2, q3, q4⟩
  ·exact .inl h
  ·exact .inr ⟨q1, q2, q3, .inr q4⟩
theorem imerge_ev (base a b : List Ent) (h0 : Stn base) (h1 : Stn a) (h2 : Stn b) (F : List ByteArray) (fl : F.length ≤ 72) : ∀ (d i : Nat) (out : List Ent), i + d = F.length → out.length ≤ i → Ev (fun k => al_.l0 k base a b out F (F.length : Int) i) (if (out ++ (F.drop i).flatMap (mgE base a b)).length > 24 then ([], 5) else (out ++ (F.drop i).flatMap (mgE base a b), 0)) := by
 intro d
 induction d with
 | zero =>
  intro i out g1 g2
  refine bi_ ?_
  simp only [al_.l0]
  rw [List.drop_of_length_le (by omega), List.flatMap_nil, List.append_nil]
  refine Ev_f (by omega) ?_
  by_cases c : out.length > 24
  rotate_left
  ·rw [if_neg c]; exact Ev_f (by omega) (Ev_n rfl)
  rw [if_pos c]; exact Ev_t (by omega) (Ev_n rfl)
 | succ d ih =>
  intro i out g1 g2
  refine bi_ ?_
  simp only [al_.l0]
  have hi : i < F.length := by omega
  rw [rdB F i hi, wr64s i (by omega), List.drop_eq_getElem_cons hi, List.flatMap_cons]
  refine Ev_t (by omega) (Ev_t (by omega) (Ev_t (by omega) (Ev_b (getI_ev a h1.1 F[i]) (Ev_b (getI_ev base h0.1 F[i]) ?_))))
  have tail : ∀ p : Ent, p = pkE base a b F[i] → Ev (fun n => if (!(p.f1.f0.toList == ([] : List UInt8)) || (!(p.f1.f1 == 0) || (!(p.f1.f2 == 0)))) = true then (if out.length < 2932031007402 then (al_.l0 n base a b (out ++ [(⟨F[i], (⟨p.f1.f0, p.f1.f1, p.f1.f2⟩ : S61)⟩ : Ent)]) F (F.length : Int) ((i + 1 : Nat) : Int)) else none) else (al_.l0 n base a b out F (F.length : Int) ((i + 1 : Nat) : Int))) (if (out ++ (mgE base a b F[i] ++ (F.drop (i + 1)).flatMap (mgE base a b))).length > 24 then ([], 5) else (out ++ (mgE base a b F[i] ++ (F.drop (i + 1)).flatMap (mgE base a b)), 0)) := by
   intro p hp
   have hm : mgE base a b F[i] = if p.f0.toList = [] then [] else [p] := by unfold mgE; rw [← hp]
   rcases pk_cases base a b h1 h2 F[i] with g | ⟨q1, q2, q3, _⟩
   ·rw [← hp] at g
    have hz : p.f0.toList = [] := by rw [g]; exact zt.1
    rw [hm, if_pos hz, List.nil_append]
    refine Ev_f ?_ (ih (i + 1) out (by omega) (by omega))
    rw [g, zt.2]
    decide
   ·rw [← hp] at q1 q2
    have hz : p.f0.toList ≠ [] := by rw [q1]; exact q3
    rw [hm, if_neg hz]
    have := ih (i + 1) (out ++ [p]) (by omega) (by simp; omega)
    rw [List.append_assoc] at this
    refine Ev_t (by simp [q2]) (Ev_t (by omega) ?_)
    rw [← q1]
    exact this
  have e := dV_sV (gE a F[i]) (gE base F[i])
  rw [dV_eq a base h1 h0] at e
  by_cases c : dE (gE a F[i]) (gE base F[i]) = true
  rotate_left
  ·have c' : dE (gE a F[i]) (gE base F[i]) = false := by simpa using c
   rw [c'] at e
   refine Ev_t e (Ev_b (getI_ev b h2.1 F[i]) (tail (gE b F[i]) ?_))
   unfold pkE; rw [if_neg c]
  rw [c] at e
  refine Ev_f (fun q => by rw [e] at q; exact absurd q (by decide)) (tail (gE a F[i]) ?_)
  unfold pkE; rw [if_pos c]
theorem own_ev (m : List Ver) (hm : m.length ≤ 16) (hs : ∀ y ∈ m, (y.f3.length : Int) ≤ 1048576) : Ev (fun k => bH_.f k m) m := by
 have go : ∀ (d i : Nat), i + d = m.length → Ev (fun k => bH_.l0 k m (m.take i) i) m := by
  intro d
  induction d with
  | zero =>
   intro i h
   refine bi_ ?_
   simp only [bH_.l0]
   exact Ev_f (by omega) (Ev_n (by rw [List.take_of_length_le (by omega)]))
  | succ d ih =>
   intro i h
   have hi : i < m.length := by omega
   have h1 := hs m[i] (List.getElem_mem _)
   refine bi_ ?_
   simp only [bH_.l0]
   rw [cC_ m i hi, wr64s i (by omega)]
   have := ih (i + 1) (by omega)
   rw [List.take_succ_eq_append_getElem hi] at this
   exact Ev_t (by omega) (Ev_t (by omega) (Ev_b (Ev_n rfl) (Ev_t (by simp only [List.length_nil]; omega) (Ev_t (by rw [List.length_take]; omega) this))))
 simp only [bH_.f]
 exact go m.length 0 (by omega)
theorem add_ev (m : List Ver) (a : Int) (nt : ByteArray) (st : List Ent) (hm : m.length ≤ 16) (hs : ∀ y ∈ m, (y.f3.length : Int) ≤ 1048576) (hst : (st.length : Int) ≤ 1048576) : ∃ (r0 : List Ver) (r1 : Int), (r0 = [] ∨ r0 = m ++ [⟨(m.length : Int) + 1, a, nt, st⟩]) ∧ Ev (fun k => df_.f k m a nt st) (r0, r1) ∧ Ev (fun k => bq_.f k m a nt st) (r0, r1) := by
 by_cases c : (m.length : Int) = 16
 ·refine ⟨[], 5, .inl rfl, ?_, ?_⟩
  ·simp only [df_.f]; exact Ev_t c (Ev_n rfl)
  ·simp only [bq_.f]; exact Ev_t c (Ev_n rfl)
 have hw : wrap64 ((m.length : Int) + 1) = (m.length : Int) + 1 := wr64 (by omega) (by omega)
 refine ⟨m ++ [⟨(m.length : Int) + 1, a, nt, st⟩], 0, .inr rfl, ?_, ?_⟩
 ·simp only [df_.f, hw]
  exact Ev_f c (Ev_b (Ev_n rfl) (Ev_t (by simp only [List.length_nil]; omega) (Ev_b (own_ev m hm hs) (Ev_b (Ev_n rfl) (Ev_t (by simp only [List.length_cons, List.length_nil]; omega) (Ev_n (by simp)))))))
 ·simp only [bq_.f, hw]
  obtain ⟨y, hy⟩ : ∃ y : List Ver, y = m ++ [⟨(m.length : Int) + 1, a, nt, st⟩] := ⟨_, rfl⟩
  have hyl : y.length = m.length + 1 := by rw [hy]; simp
  have hys : ∀ z ∈ y, (z.f3.length : Int) ≤ 1048576 := by
   intro z hz
   rw [hy] at hz
   rcases List.mem_append.1 hz with h | h
   ·exact hs z h
   ·rw [List.mem_singleton.1 h]; exact hst
  have go : ∀ (d i : Nat), i + d = y.length → Ev (fun k => bq_.l0 k (y.take i) y (y.length : Int) i) (y, 0) := by
   intro d
   induction d with
   | zero =>
    intro i h
    refine bi_ ?_
    simp only [bq_.l0]
    exact Ev_f (by omega) (Ev_n (by rw [List.take_of_length_le (by omega)]))
   | succ d ih =>
    intro i h
    have hi : i < y.length := by omega
    have h1 := hys y[i] (List.getElem_mem _)
    refine bi_ ?_
    simp only [bq_.l0]
    rw [cC_ y i hi, wr64s i (by omega)]
    have := ih (i + 1) (by omega)
    rw [List.take_succ_eq_append_getElem hi] at this
    refine Ev_t (by omega) (Ev_t (by omega) (Ev_t (by omega) (Ev_b (a := y[i].f3) (Ev_c ?_) (Ev_t (by rw [List.length_take]; omega) this))))
    unfold impl_Entry.f
    rw [if_pos (by omega)]
  have hc : cO_.f m = some m := by
   unfold cO_.f
   simp only [Option.bind_some, List.length_nil, List.nil_append]
   rw [if_pos (by omega)]
  rw [hc]
  refine Ev_f c (Ev_b (Ev_n rfl) (Ev_t (by omega) (Ev_b (Ev_n rfl) ?_)))
  rw [← hy]
  exact go y.length 0 (by omega)
end Go.Proofs.Ytiheginanghhjaa.Q
namespace Go.Proofs.Ytiheginanghhjaa.Q
open Go.RowKit Go.Proofs.YtiheginanghhjaaW.PrintWords Go.Proofs.YtiheginanghhjaaW.PrintLast Go.Proofs.YtiheginanghhjaaW.PrintMore
attribute [local go_sem] aP_ aQ_ bh_ bg_ aE_ aD_ aR_ aO_
def aV_.l0 : Nat → List (S78) → Int → List Int → Option (List Int)
 | 0, _, _, _ => none
 | k + 1, x0, x1, x5 => if x1 = 0 then (some x5) else (if 0 ≤ (wrap64 (x1 - 1)) then (if (wrap64 (x1 - 1)) < (x0.length : Int) then (if ((ar_ x0 (wrap64 (x1 - 1))).f1) = 0 then (aV_.l0 k x0 ((ar_ x0 (wrap64 (x1 - 1))).f1) x5) else (if x5.length < 17592186044416 then (aV_.l0 k x0 ((ar_ x0 (wrap64 (x1 - 1))).f1) (x5 ++ [(ar_ x0 (wrap64 (x1 - 1))).f1])) else (none))) else (none)) else (none))
def aV_.f (k : Nat) (l0 : List (S78)) (a1 : Int) : Option (List Int) := aV_.l0 k l0 a1 (([] : List Int))
set_option maxHeartbeats 8000000 in
set_option maxRecDepth 100000 in
theorem aV_.calls (k : Nat) (A0 : Option Addr) (c0 : Nat) (l0 : List (S78)) (a1 : Int) (r : List Int) (w : World) (hr0 : Kd.C k78 w A0 l0.length l0) (hc0 : l0.length ≤ c0) (h : aV_.f k l0 a1 = some r) :
  Calls Try.prog 75 #[.slice A0 l0.length c0, .int .i64 a1] w fun e w' => ∃ v0_ : Value, e = .returned (v0_) ∧ Kd.R (Kd.int .i64) 2 w' w.heap.size (fun _ => True) v0_ r ∧ Below w.heap.size w w' := by
 have HR0 := Aside0.mk hr0
 have HC0 := Aside0.mk hc0
 clear hr0 hc0
 have HB := Aside0.mk (Below.refl w.heap.size w)
 have H : (aV_.l0 k l0 a1 (([] : List Int))) = some r := h
 clear h
 obtain ⟨y101, hy101⟩ : ∃ y_ : List Int, y_ = (([] : List Int)) := ⟨_, rfl⟩
 replace H : (aV_.l0 k l0 a1 y101) = some r := by first | (rw [hy101]; with_reducible exact H) | (have H2_ := (Option.bind_some _ _).symm.trans H; rw [hy101]; with_reducible exact H2_) | (have H2_ := (Option.bind_some _ _).symm.trans H; with_reducible exact H2_) | with_reducible exact H | (rw [hy101]; exact H) | exact H
 have Ny101 := Aside0.mk hy101
 clear hy101
 have H' := Aside0.mk H
 clear H
 go_enter Try.func75, Try.ntmps75
 go_wp2_with (first | ((with_reducible refine aH_ (N := 6) rfl ?_); refine Kd.R_lit (Kd.int .i64) _ 2 ?hg (N := 6) ?hd (xs := ([] : List Int)) (inner := []) (ok := fun _ => True) (okp := fun _ => True) ?hr ?hp (fun _ hk => hk) trivial (Below.refl _ _) (Nat.le_refl _) (by simp) ?_; (case hd => rfl); (case hg => rfl); (case hr => (go_simp; try rfl)); (case hp => exact (Reps.none _ _)); intro v102 w3 ho4 hb hg_ hnew_; clear hg_ hnew_; (first | rw [← Ny101.out] at ho4 | (simp only [Int.reduceToNat] at ho4; rw [← Ny101.out] at ho4)); have HO103 := Aside0.mk (Kd.bt_ ho4 (ae_ (bz HB.out))); replace HB := Aside0.mk (ac_ (bz HB.out) hb); clear hb ho4))
 (try simp only [Act.put, lsa_, ls0_, ls1_])
 go_loopg [1, 5] k (fun kq v1 v5 w' => ∃ (x1_1 : Int) (x5_1 : List Int), v1 = .int .i64 x1_1 ∧ Aside0 (aV_.l0 kq l0 x1_1 x5_1 = some r) ∧ Aside0 (kq ≤ k) ∧ Aside0 (Kd.R (Kd.int .i64) 2 w' w.heap.size (fun _ => True) v5 x5_1) ∧ Aside0 (Below w.heap.size w w'))
 case atStart => exact ⟨(a1), (y101), (by first | rfl | (simp; done) | (simp [*]; done)), H', ⟨Nat.le_refl _⟩, ⟨rz HO103.out⟩, ⟨bz HB.out⟩⟩
 case round =>
  clear H'
  obtain ⟨x1_1, x5_1, rfl, HA, HK1, HO_5, HB⟩ := hrel
  cases gk with
  | zero => exact absurd HA.out (by simp [aV_.l0])
  | succ k1 =>
   have H := HA.out
   clear HA
   simp only [aV_.l0] at H
   by_cases c5 : x1_1 = 0
   rotate_left
   ·rw [if_neg c5] at H
    have c5b0 : (x1_1 == 0) = false := beq_eq_false_iff_ne.mpr c5
    have c5b1 : (x1_1 != 0) = true := bne_iff_ne.mpr c5
    obtain ⟨ji6, hji6⟩ : ∃ j_ : Int, (wrap64 (x1_1 - 1)) = j_ := ⟨_, rfl⟩
    replace H : (if 0 ≤ (ji6) then (if (ji6) < (l0.length : Int) then (if ((ar_ l0 (ji6)).f1) = 0 then (aV_.l0 k1 l0 ((ar_ l0 (ji6)).f1) x5_1) else (if x5_1.length < 17592186044416 then (aV_.l0 k1 l0 ((ar_ l0 (ji6)).f1) (x5_1 ++ [(ar_ l0 (ji6)).f1])) else (none))) else (none)) else (none)) = some r := by first | (rw [hji6] at H; exact H) | (simp only [hji6] at H ⊢; exact H)
    have hji6w : (IntKind.i64.wrap (x1_1 - 1)) = ji6 := (i64_w _).trans hji6
    by_cases c7 : 0 ≤ (ji6)
    rotate_left
    ·rw [if_neg c7] at H
     exact absurd H (by simp)
    rw [if_pos c7] at H
    have c7b0 : decide (0 ≤ (ji6)) = true := decide_eq_true c7
    clear c7
    by_cases c8 : (ji6) < (l0.length : Int)
    rotate_left
    ·rw [if_neg c8] at H
     exact absurd H (by simp)
    rw [if_pos c8] at H
    have c8b0 : decide ((ji6) < (l0.length : Int)) = true := decide_eq_true c8
    clear c8
    by_cases c9 : ((ar_ l0 (ji6)).f1) = 0
    rotate_left
    ·rw [if_neg c9] at H
     have c9b0 : (((ar_ l0 (ji6)).f1) == 0) = false := beq_eq_false_iff_ne.mpr c9
     have c9b1 : (((ar_ l0 (ji6)).f1) != 0) = true := bne_iff_ne.mpr c9
     by_cases c10 : x5_1.length < 17592186044416
     rotate_left
     ·rw [if_neg c10] at H
      exact absurd H (by simp)
     rw [if_pos c10] at H
     have LMc10 := Aside0.mk c10
     clear c10
     obtain ⟨y105, hy105⟩ : ∃ y_ : List Int, y_ = (x5_1 ++ [(ar_ l0 (ji6)).f1]) := ⟨_, rfl⟩
     replace H : (aV_.l0 k1 l0 ((ar_ l0 (ji6)).f1) y105) = some r := by first | (rw [hy105]; with_reducible exact H) | (have H2_ := (Option.bind_some _ _).symm.trans H; rw [hy105]; with_reducible exact H2_) | (have H2_ := (Option.bind_some _ _).symm.trans H; with_reducible exact H2_) | with_reducible exact H | (rw [hy105]; exact H) | exact H
     have Ny105 := Aside0.mk hy105
     clear hy105
     have H' := Aside0.mk H
     clear H
     have p104 : 0 ≤ ((ji6) : Int) := of_decide_eq_true (by assumption)
     have q104 : (ji6) < (l0.length : Int) := of_decide_eq_true (by assumption)
     obtain ⟨ad104, A104_3, c104_3, e104, hx104_0, hx104_1, hx104_2, hx104_3, hl104_3, hi104_3⟩ := dp_ HR0.out (ji6) p104 q104
     cases e104
     replace hx104_0 := bu_ HB.out hx104_0
     replace hx104_1 := bu_ HB.out hx104_1
     replace hx104_2 := bu_ HB.out hx104_2
     replace hx104_3 := bu_ HB.out hx104_3
     have HR104_3 := Aside0.mk hi104_3
     have HC104_3 := Aside0.mk hl104_3
     clear hi104_3 hl104_3
     replace p104 := eq_true p104
     replace q104 := eq_true q104
     go_wp2_with (first | ((with_reducible refine be_ (b := .append) (xs := #[.tmp 17, .tmp 19]) rfl ?_); at_builtin; refine Kd.cw_ (Kd.int .i64) (w0 := w) w.heap.size rfl (.tmp 17) (.tmp 19) 100 2 (.int .i64 0) 8 rfl Try.underlying100 info2 rfl (by decide) (by omega) u5 x5_1 ((ar_ l0 (ji6)).f1) [.int .i64 ((ar_ l0 (ji6)).f1)] (fun _ => True) (fun _ => False) rfl rfl ?aP (fun _ hk => hk.elim) ?aF ?aO ?aB ?aS ?aL ?_; (case aP => exact rfl); (case aB => exact (bz HB.out)); (case aF => exact (fun _ _ => trivial)); (case aO => exact (rz HO_5.out)); (case aS => exact (ae_ (bz HB.out))); (case aL => have := LMc10.out; omega); intro v106 w11 ho hb hg hat; rw [← Ny105.out] at ho; replace HB := Aside0.mk (hb); have HO107 := Aside0.mk (ho); clear HO_5; clear ho hb hg hat))
     go_roundg k1
     case measure => have := HK1.out; omega
     case rel => exact ⟨((ar_ l0 (ji6)).f1), (y105), (by first | rfl | (simp; done) | (simp only [← hji6] <;> (first | rfl | simp)) | (simp [*]; done)), H', ⟨by have := HK1.out; omega⟩, ⟨rz HO107.out⟩, ⟨bz HB.out⟩⟩
    rw [if_pos c9] at H
    have c9b0 : (((ar_ l0 (ji6)).f1) == 0) = true := beq_iff_eq.mpr c9
    have c9b1 : (((ar_ l0 (ji6)).f1) != 0) = false := bne_eq_false_iff_eq.mpr c9
    clear c9
    have H' := Aside0.mk H
    clear H
    have p104 : 0 ≤ ((ji6) : Int) := of_decide_eq_true (by assumption)
    have q104 : (ji6) < (l0.length : Int) := of_decide_eq_true (by assumption)
    obtain ⟨ad104, A104_3, c104_3, e104, hx104_0, hx104_1, hx104_2, hx104_3, hl104_3, hi104_3⟩ := dp_ HR0.out (ji6) p104 q104
    cases e104
    replace hx104_0 := bu_ HB.out hx104_0
    replace hx104_1 := bu_ HB.out hx104_1
    replace hx104_2 := bu_ HB.out hx104_2
    replace hx104_3 := bu_ HB.out hx104_3
    have HR104_3 := Aside0.mk hi104_3
    have HC104_3 := Aside0.mk hl104_3
    clear hi104_3 hl104_3
    replace p104 := eq_true p104
    replace q104 := eq_true q104
    go_wp2
    go_roundg k1
    case measure => have := HK1.out; omega
    case rel => exact ⟨((ar_ l0 (ji6)).f1), (x5_1), (by first | rfl | (simp; done) | (simp only [← hji6] <;> (first | rfl | simp)) | (simp [*]; done)), H', ⟨by have := HK1.out; omega⟩, ⟨rz HO_5.out⟩, ⟨bz HB.out⟩⟩
   rw [if_pos c5] at H
   have c5b0 : (x1_1 == 0) = true := beq_iff_eq.mpr c5
   have c5b1 : (x1_1 != 0) = false := bne_eq_false_iff_eq.mpr c5
   clear c5
   obtain rfl := Option.some.inj H
   go_wp2
   go_ret
   exact ⟨_, by first | rfl | (simp [*, ao_, an_] <;> rfl), rz HO_5.out, bz HB.out⟩
def cd_.l0 : Nat → List Int → Int → Int → Option (Bool)
 | 0, _, _, _ => none
 | k + 1, x0, x1, x5 => if x5 < (x0.length : Int) then (if 0 ≤ x5 then (if (rd x0 x5) = x1 then (some true) else (cd_.l0 k x0 x1 (wrap64 (x5 + 1)))) else (none)) else (some false)
def cd_.f (k : Nat) (l0 : List Int) (a1 : Int) : Option (Bool) := cd_.l0 k l0 a1 0
set_option maxHeartbeats 8000000 in
set_option maxRecDepth 100000 in
theorem cd_.calls (k : Nat) (A0 : Option Addr) (c0 : Nat) (l0 : List Int) (a1 : Int) (r : Bool) (w : World) (hr0 : Kd.C (Kd.int .i64) w A0 l0.length l0) (hc0 : l0.length ≤ c0) (h : cd_.f k l0 a1 = some r) :
  Calls Try.prog 76 #[.slice A0 l0.length c0, .int .i64 a1] w fun e w' => e = .returned (.bool r) ∧ aq_ w w' := by
 have HR0 := Aside0.mk hr0
 have HC0 := Aside0.mk hc0
 clear hr0 hc0
 have H : (cd_.l0 k l0 a1 0) = some r := h
 clear h
 have H' := Aside0.mk H
 clear H
 go_enter Try.func76, Try.ntmps76
 go_wp2
 (try simp only [Act.put, lsa_, ls0_, ls1_])
 go_loopg [5] k (fun kq v5 w' => ∃ (x5_1 : Int), v5 = .int .i64 x5_1 ∧ Aside0 (cd_.l0 kq l0 a1 x5_1 = some r) ∧ Aside0 (kq ≤ k) ∧ aq_ w w')
 case atStart => exact ⟨(0), (by first | rfl | (simp; done) | (simp [*]; done)), H', ⟨Nat.le_refl _⟩, by repeat (first | exact aq_.refl _ | apply aq_.step)⟩
 case round =>
  clear H'
  obtain ⟨x5_1, rfl, HA, HK1, ⟨m1, rfl⟩⟩ := hrel
  cases gk with
  | zero => exact absurd HA.out (by simp [cd_.l0])
  | succ k1 =>
   have H := HA.out
   clear HA
   simp only [cd_.l0] at H
   by_cases c3 : x5_1 < (l0.length : Int)
   rotate_left
   ·rw [if_neg c3] at H
    have c3b0 : decide (x5_1 < (l0.length : Int)) = false := decide_eq_false c3
    clear c3
    obtain rfl := Option.some.inj H
    go_wp2
    go_ret
    exact ⟨by first | rfl | (simp; done) | (simp [*]; done), by repeat (first | exact aq_.refl _ | apply aq_.step)⟩
   rw [if_pos c3] at H
   have c3b0 : decide (x5_1 < (l0.length : Int)) = true := decide_eq_true c3
   clear c3
   by_cases c4 : 0 ≤ x5_1
   rotate_left
   ·rw [if_neg c4] at H
    exact absurd H (by simp)
   rw [if_pos c4] at H
   have c4b0 : decide (0 ≤ x5_1) = true := decide_eq_true c4
   clear c4
   by_cases c5 : (rd l0 x5_1) = a1
   rotate_left
   ·rw [if_neg c5] at H
    have c5b0 : ((rd l0 x5_1) == a1) = false := beq_eq_false_iff_ne.mpr c5
    have c5b1 : ((rd l0 x5_1) != a1) = true := bne_iff_ne.mpr c5
    have H' := Aside0.mk H
    clear H
    have p101 : 0 ≤ (x5_1 : Int) := of_decide_eq_true (by assumption)
    have q101 : x5_1 < (l0.length : Int) := of_decide_eq_true (by assumption)
    obtain ⟨ad101, e101, hx101_0⟩ := Kd.at_int HR0.out x5_1 p101 q101
    cases e101
    replace p101 := eq_true p101
    replace q101 := eq_true q101
    go_wp2
    go_roundg k1
    case measure => have := HK1.out; omega
    case rel => exact ⟨(wrap64 (x5_1 + 1)), (by first | rfl | (simp; done) | (simp [*]; done)), H', ⟨by have := HK1.out; omega⟩, by repeat (first | exact aq_.refl _ | apply aq_.step)⟩
   rw [if_pos c5] at H
   have c5b0 : ((rd l0 x5_1) == a1) = true := beq_iff_eq.mpr c5
   have c5b1 : ((rd l0 x5_1) != a1) = false := bne_eq_false_iff_eq.mpr c5
   clear c5
   obtain rfl := Option.some.inj H
   have p101 : 0 ≤ (x5_1 : Int) := of_decide_eq_true (by assumption)
   have q101 : x5_1 < (l0.length : Int) := of_decide_eq_true (by assumption)
   obtain ⟨ad101, e101, hx101_0⟩ := Kd.at_int HR0.out x5_1 p101 q101
   cases e101
   replace p101 := eq_true p101
   replace q101 := eq_true q101
   go_wp2
   go_ret
   exact ⟨by first | rfl | (simp; done) | (simp [*]; done), by repeat (first | exact aq_.refl _ | apply aq_.step)⟩
def bj_.l0 : Nat → List Int → List Int → Int → Option (Int)
 | 0, _, _, _ => none
 | k + 1, x7, x8, x9 => if x9 < (x7.length : Int) then (if 0 ≤ x9 then ((cd_.f k x8 (rd x7 x9)).bind fun t120 => (if t120 = true then (some (rd x7 x9)) else (bj_.l0 k x7 x8 (wrap64 (x9 + 1))))) else (none)) else (some 0)
def bj_.f (k : Nat) (l0 : List (S78)) (a1 : Int) (a2 : Int) : Option (Int) := (some (([a1] : List Int) : List Int)).bind fun y101 => ((aV_.f k l0 a1).bind fun t104 => (if y101.length + t104.length < 17592186044416 then ((some (([a2] : List Int) : List Int)).bind fun y110 => ((aV_.f k l0 a2).bind fun t113 => (if y110.length + t113.length < 17592186044416 then (bj_.l0 k (y101 ++ t104) (y110 ++ t113) 0) else (none)))) else (none)))
set_option maxHeartbeats 8000000 in
set_option maxRecDepth 100000 in
theorem bj_.calls (k : Nat) (A0 : Option Addr) (c0 : Nat) (l0 : List (S78)) (a1 : Int) (a2 : Int) (r : Int) (w : World) (hr0 : Kd.C k78 w A0 l0.length l0) (hc0 : l0.length ≤ c0) (h : bj_.f k l0 a1 a2 = some r) :
  Calls Try.prog 50 #[.slice A0 l0.length c0, .int .i64 a1, .int .i64 a2] w fun e w' => e = .returned (.int .i64 r) ∧ Below w.heap.size w w' := by
 have HR0 := Aside0.mk hr0
 have HC0 := Aside0.mk hc0
 clear hr0 hc0
 have HB := Aside0.mk (Below.refl w.heap.size w)
 have H : ((some (([a1] : List Int) : List Int)).bind fun y101 => ((aV_.f k l0 a1).bind fun t104 => (if y101.length + t104.length < 17592186044416 then ((some (([a2] : List Int) : List Int)).bind fun y110 => ((aV_.f k l0 a2).bind fun t113 => (if y110.length + t113.length < 17592186044416 then (bj_.l0 k (y101 ++ t104) (y110 ++ t113) 0) else (none)))) else (none)))) = some r := h
 clear h
 obtain ⟨y101, hy101⟩ : ∃ y_ : List Int, y_ = (([a1] : List Int)) := ⟨_, rfl⟩
 replace H : ((aV_.f k l0 a1).bind fun t104 => (if y101.length + t104.length < 17592186044416 then ((some (([a2] : List Int) : List Int)).bind fun y110 => ((aV_.f k l0 a2).bind fun t113 => (if y110.length + t113.length < 17592186044416 then (bj_.l0 k (y101 ++ t104) (y110 ++ t113) 0) else (none)))) else (none))) = some r := by first | (rw [hy101]; with_reducible exact H) | (have H2_ := (Option.bind_some _ _).symm.trans H; rw [hy101]; with_reducible exact H2_) | (have H2_ := (Option.bind_some _ _).symm.trans H; with_reducible exact H2_) | with_reducible exact H | (rw [hy101]; exact H) | exact H
 have Ny101 := Aside0.mk hy101
 clear hy101
 replace H := Option.bind_eq_some_iff.mp H
 obtain ⟨t104, A40, H⟩ := H
 (try dsimp only at H)
 have A4 := Aside0.mk A40
 clear A40
 by_cases c5 : y101.length + t104.length < 17592186044416
 rotate_left
 ·rw [if_neg c5] at H
  exact absurd H (by simp)
 rw [if_pos c5] at H
 have LMc5 := Aside0.mk c5
 clear c5
 obtain ⟨y107, hy107⟩ : ∃ y_ : List Int, y_ = (y101 ++ t104) := ⟨_, rfl⟩
 replace H : ((some (([a2] : List Int) : List Int)).bind fun y110 => ((aV_.f k l0 a2).bind fun t113 => (if y110.length + t113.length < 17592186044416 then (bj_.l0 k y107 (y110 ++ t113) 0) else (none)))) = some r := by first | (rw [hy107]; with_reducible exact H) | (have H2_ := (Option.bind_some _ _).symm.trans H; rw [hy107]; with_reducible exact H2_) | (have H2_ := (Option.bind_some _ _).symm.trans H; with_reducible exact H2_) | with_reducible exact H | (rw [hy107]; exact H) | exact H
 have Ny107 := Aside0.mk hy107
 clear hy107
 obtain ⟨y110, hy110⟩ : ∃ y_ : List Int, y_ = (([a2] : List Int)) := ⟨_, rfl⟩
 replace H : ((aV_.f k l0 a2).bind fun t113 => (if y110.length + t113.length < 17592186044416 then (bj_.l0 k y107 (y110 ++ t113) 0) else (none))) = some r := by first | (rw [hy110]; with_reducible exact H) | (have H2_ := (Option.bind_some _ _).symm.trans H; rw [hy110]; with_reducible exact H2_) | (have H2_ := (Option.bind_some _ _).symm.trans H; with_reducible exact H2_) | with_reducible exact H | (rw [hy110]; exact H) | exact H
 have Ny110 := Aside0.mk hy110
 clear hy110
 replace H := Option.bind_eq_some_iff.mp H
 obtain ⟨t113, A60, H⟩ := H
 (try dsimp only at H)
 have A6 := Aside0.mk A60
 clear A60
 by_cases c7 : y110.length + t113.length < 17592186044416
 rotate_left
 ·rw [if_neg c7] at H
  exact absurd H (by simp)
 rw [if_pos c7] at H
 have LMc7 := Aside0.mk c7
 clear c7
 obtain ⟨y116, hy116⟩ : ∃ y_ : List Int, y_ = (y110 ++ t113) := ⟨_, rfl⟩
 replace H : (bj_.l0 k y107 y116 0) = some r := by first | (rw [hy116]; with_reducible exact H) | (have H2_ := (Option.bind_some _ _).symm.trans H; rw [hy116]; with_reducible exact H2_) | (have H2_ := (Option.bind_some _ _).symm.trans H; with_reducible exact H2_) | with_reducible exact H | (rw [hy116]; exact H) | exact H
 have Ny116 := Aside0.mk hy116
 clear hy116
 have H' := Aside0.mk H
 clear H
 go_enter Try.func50, Try.ntmps50
 go_wp2_with (first | ((with_reducible refine aH_ (N := 11) rfl ?_); refine Kd.R_lit (Kd.int .i64) _ 2 ?hg (N := 11) ?hd (xs := ([a1] : List Int)) (inner := [.int .i64 a1]) (ok := fun _ => True) (okp := fun _ => True) ?hr ?hp (fun _ hk => hk) trivial (Below.refl _ _) (Nat.le_refl _) (by simp) ?_; (case hd => rfl); (case hg => rfl); (case hr => (go_simp; try rfl)); (case hp => exact (Reps.one (show Kd.M (Kd.int .i64) _ _ _ a1 [.int .i64 a1] from rfl) (Reps.none _ _))); intro v102 w8 ho9 hb hg_ hnew_; clear hg_ hnew_; (first | rw [← Ny101.out] at ho9 | (simp only [Int.reduceToNat] at ho9; rw [← Ny101.out] at ho9)); have HO103 := Aside0.mk (Kd.bt_ ho9 (ae_ (bz HB.out))); replace HB := Aside0.mk (ac_ (bz HB.out) hb); clear hb ho9) | ((with_reducible refine ah_ (f := 75) rfl ?_); refine aN_ (some 14) rfl rfl Try.func75 (by kernel_rfl) rfl #[.slice A0 l0.length c0, .int .i64 a1] rfl (by first | rfl | (simp only [lma_, lmc_, lmn_]; first | done | rfl)) ?_; (with_reducible refine (aV_.calls k _ _ l0 a1 t104 _ ?side1 ?side2 A4.out).mono ?_); (case side1 => exact cz (Kd.bM_ HR0.out HB.out)); (case side2 => exact HC0.out); rintro e w10 ⟨v105, rfl, ho0, hb⟩; refine ⟨_, rfl, ?_⟩; have HO106 := Aside0.mk (Kd.bt_ (Kd.bB_ ho0 (Kd.R_lt (rz HO103.out))) (ae_ (bz HB.out))); replace HO103 := Aside0.mk (Kd.aK_ (rz HO103.out) (Kd.aZ_ ho0) hb); replace HB := Aside0.mk (ac_ (bz HB.out) hb); (try clear hb); (try clear ho0); obtain ⟨Ao12, co12, eo12⟩ := Kd.bn_ HO106.out; subst eo12) | ((with_reducible refine be_ (b := .append) (xs := #[.tmp 11, .tmp 14]) rfl ?_); at_builtin; refine Kd.cE_ (Kd.int .i64) (w0 := w) w.heap.size rfl (.tmp 11) (.tmp 14) 100 2 (.int .i64 0) 8 rfl Try.underlying100 info2 rfl (by decide) (by omega) v102 y101 t104 _ _ _ (fun k_ => some k_ ≠ (.slice Ao12 t104.length co12 : Value).ownBlock) (fun _ => False) rfl rfl ?aO ?aR (fun _ _ h => h) (fun _ h => h.elim) ?aF ?aB ?aS ?aL ?_; (case aR => exact cz (Kd.as_ HO106.out).2.2); (case aB => exact (bz HB.out)); (case aF => exact (fun k_ hk => Kd.fresh' (Kd.R_lt (rz HO106.out)) k_ hk)); (case aO => exact (rz (Kd.aB_ HO103.out (fun _ hk => hk.2)))); (case aS => exact (ae_ (bz HB.out))); (case aL => have := LMc5.out; omega); intro v108 w11 ho hb hg hat; rw [← Ny107.out] at ho; replace HO106 := Aside0.mk (Kd.dn_ (ok := (fun _ => True)) (rz HO106.out) hg hat); replace HB := Aside0.mk (hb); have HO109 := Aside0.mk (ho); clear HO103; clear ho hb hg hat) | ((with_reducible refine aH_ (N := 17) rfl ?_); refine Kd.R_lit (Kd.int .i64) _ 2 ?hg (N := 17) ?hd (xs := ([a2] : List Int)) (inner := [.int .i64 a2]) (ok := fun _ => True) (okp := fun _ => True) ?hr ?hp (fun _ hk => hk) trivial (Below.refl _ _) (Nat.le_refl _) (by simp) ?_; (case hd => rfl); (case hg => rfl); (case hr => (go_simp; try rfl)); (case hp => exact (Reps.one (show Kd.M (Kd.int .i64) _ _ _ a2 [.int .i64 a2] from rfl) (Reps.none _ _))); intro v111 w13 ho14 hb hg_ hnew_; clear hg_ hnew_; (first | rw [← Ny110.out] at ho14 | (simp only [Int.reduceToNat] at ho14; rw [← Ny110.out] at ho14)); have HO112 := Aside0.mk (Kd.bt_ (Kd.bB_ (Kd.bB_ ho14 (Kd.R_lt (rz HO106.out))) (Kd.R_lt (rz HO109.out))) (ae_ (bz HB.out))); replace HO106 := Aside0.mk (Kd.aK_ (rz HO106.out) (Kd.aZ_ ho14) hb); replace HO109 := Aside0.mk (Kd.aK_ (rz HO109.out) (Kd.aZ_ ho14) hb); replace HB := Aside0.mk (ac_ (bz HB.out) hb); clear hb ho14) | ((with_reducible refine ah_ (f := 75) rfl ?_); refine aN_ (some 20) rfl rfl Try.func75 (by kernel_rfl) rfl #[.slice A0 l0.length c0, .int .i64 a2] rfl (by first | rfl | (simp only [lma_, lmc_, lmn_]; first | done | rfl)) ?_; (with_reducible refine (aV_.calls k _ _ l0 a2 t113 _ ?side1 ?side2 A6.out).mono ?_); (case side1 => exact cz (Kd.bM_ HR0.out HB.out)); (case side2 => exact HC0.out); rintro e w15 ⟨v114, rfl, ho0, hb⟩; refine ⟨_, rfl, ?_⟩; have HO115 := Aside0.mk (Kd.bt_ (Kd.bB_ (Kd.bB_ (Kd.bB_ ho0 (Kd.R_lt (rz HO106.out))) (Kd.R_lt (rz HO109.out))) (Kd.R_lt (rz HO112.out))) (ae_ (bz HB.out))); replace HO106 := Aside0.mk (Kd.aK_ (rz HO106.out) (Kd.aZ_ ho0) hb); replace HO109 := Aside0.mk (Kd.aK_ (rz HO109.out) (Kd.aZ_ ho0) hb); replace HO112 := Aside0.mk (Kd.aK_ (rz HO112.out) (Kd.aZ_ ho0) hb); replace HB := Aside0.mk (ac_ (bz HB.out) hb); (try clear hb); (try clear ho0); obtain ⟨Ao17, co17, eo17⟩ := Kd.bn_ HO115.out; subst eo17) | ((with_reducible refine be_ (b := .append) (xs := #[.tmp 17, .tmp 20]) rfl ?_); at_builtin; refine Kd.cE_ (Kd.int .i64) (w0 := w) w.heap.size rfl (.tmp 17) (.tmp 20) 100 2 (.int .i64 0) 8 rfl Try.underlying100 info2 rfl (by decide) (by omega) v111 y110 t113 _ _ _ (fun k_ => some k_ ≠ (.slice Ao12 t104.length co12 : Value).ownBlock ∧ some k_ ≠ (v108 : Value).ownBlock ∧ some k_ ≠ (.slice Ao17 t113.length co17 : Value).ownBlock) (fun _ => False) rfl rfl ?aO ?aR (fun _ _ h => h) (fun _ h => h.elim) ?aF ?aB ?aS ?aL ?_; (case aR => exact cz (Kd.as_ HO115.out).2.2); (case aB => exact (bz HB.out)); (case aF => exact (fun k_ hk => ⟨Kd.fresh' (Kd.R_lt (rz HO106.out)) k_ hk, Kd.fresh' (Kd.R_lt (rz HO109.out)) k_ hk, Kd.fresh' (Kd.R_lt (rz HO115.out)) k_ hk⟩)); (case aO => exact (rz (Kd.aB_ HO112.out (fun _ hk => ⟨hk.1.1.2, ⟨hk.1.2, hk.2⟩⟩)))); (case aS => exact (ae_ (bz HB.out))); (case aL => have := LMc7.out; omega); intro v117 w16 ho hb hg hat; rw [← Ny116.out] at ho; replace HO106 := Aside0.mk (Kd.dn_ (ok := (fun k_ => some k_ ≠ (v108 : Value).ownBlock ∧ some k_ ≠ (.slice Ao17 t113.length co17 : Value).ownBlock)) (rz (Kd.aB_ HO106.out (fun _ hk => ⟨⟨hk.1.1.2, hk.2⟩, hk.1.2⟩))) hg hat); replace HO109 := Aside0.mk (Kd.dn_ (ok := (fun k_ => some k_ ≠ (.slice Ao12 t104.length co12 : Value).ownBlock ∧ some k_ ≠ (.slice Ao17 t113.length co17 : Value).ownBlock)) (rz (Kd.aB_ HO109.out (fun _ hk => ⟨⟨hk.1.1, hk.2⟩, hk.1.2⟩))) hg hat); replace HO115 := Aside0.mk (Kd.dn_ (ok := (fun k_ => some k_ ≠ (.slice Ao12 t104.length co12 : Value).ownBlock ∧ some k_ ≠ (v108 : Value).ownBlock)) (rz (Kd.aB_ HO115.out (fun _ hk => ⟨⟨hk.1.1.2, hk.1.2⟩, hk.2⟩))) hg hat); replace HB := Aside0.mk (hb); have HO118 := Aside0.mk (ho); clear HO112; clear ho hb hg hat))
 (try simp only [Act.put, lsa_, ls0_, ls1_])
 go_loopg [9] k (fun kq v9 w' => ∃ (x9_1 : Int), v9 = .int .i64 x9_1 ∧ Aside0 (bj_.l0 kq y107 y116 x9_1 = some r) ∧ Aside0 (kq ≤ k) ∧ Aside0 (Kd.R (Kd.int .i64) 2 w' w.heap.size (fun k_ => some k_ ≠ (v117 : Value).ownBlock) v108 y107) ∧ Aside0 (Kd.R (Kd.int .i64) 2 w' w.heap.size (fun k_ => some k_ ≠ (v108 : Value).ownBlock) v117 y116) ∧ Aside0 (Below w.heap.size w w'))
 case atStart => exact ⟨(0), (by first | rfl | (simp; done) | (simp [*]; done)), H', ⟨Nat.le_refl _⟩, ⟨rz (Kd.aB_ HO109.out (fun _ hk => hk.2))⟩, ⟨rz (Kd.aB_ HO118.out (fun _ hk => hk.2.1))⟩, ⟨bz HB.out⟩⟩
 case round =>
  clear H'
  obtain ⟨x9_1, rfl, HA, HK1, HO_7, HO_8, HB⟩ := hrel
  cases gk with
  | zero => exact absurd HA.out (by simp [bj_.l0])
  | succ k1 =>
   have H := HA.out
   clear HA
   simp only [bj_.l0] at H
   by_cases c18 : x9_1 < (y107.length : Int)
   rotate_left
   ·rw [if_neg c18] at H
    have c18b0 : decide (x9_1 < (y107.length : Int)) = false := decide_eq_false c18
    clear c18
    obtain rfl := Option.some.inj H
    obtain ⟨Ao25, co25, eo25⟩ := Kd.bn_ HO_7.out
    subst eo25
    go_wp2
    go_ret
    exact ⟨by first | rfl | (simp [*, ao_, an_] <;> rfl), bz HB.out⟩
   rw [if_pos c18] at H
   have c18b0 : decide (x9_1 < (y107.length : Int)) = true := decide_eq_true c18
   clear c18
   by_cases c19 : 0 ≤ x9_1
   rotate_left
   ·rw [if_neg c19] at H
    exact absurd H (by simp)
   rw [if_pos c19] at H
   have c19b0 : decide (0 ≤ x9_1) = true := decide_eq_true c19
   clear c19
   replace H := Option.bind_eq_some_iff.mp H
   obtain ⟨t120, A200, H⟩ := H
   (try dsimp only at H)
   have A20 := Aside0.mk A200
   clear A200
   have HC21 := Aside0.mk H
   clear H
   obtain ⟨Ao22, co22, eo22⟩ := Kd.bn_ HO_7.out
   subst eo22
   have p119 : 0 ≤ (x9_1 : Int) := of_decide_eq_true (by assumption)
   have q119 : x9_1 < (y107.length : Int) := of_decide_eq_true (by assumption)
   obtain ⟨ad119, e119, hx119_0⟩ := Kd.at_int (Kd.as_ HO_7.out).2.2 x9_1 p119 q119
   cases e119
   replace p119 := eq_true p119
   replace q119 := eq_true q119
   obtain ⟨Ao23, co23, eo23⟩ := Kd.bn_ HO_8.out
   subst eo23
   go_upto_if 33 with (first | ((with_reducible refine ah_ (f := 76) rfl ?_); refine aN_ (some 33) rfl rfl Try.func76 (by kernel_rfl) rfl #[.slice Ao23 y116.length co23, .int .i64 (rd y107 x9_1)] rfl (by first | rfl | (simp only [lma_, lmc_, lmn_]; first | done | rfl)) ?_; (with_reducible refine (cd_.calls k1 _ _ y116 (rd y107 x9_1) t120 _ ?side1 ?side2 A20.out).mono ?_); (case side1 => exact cz (Kd.as_ HO_8.out).2.2); (case side2 => exact (Kd.as_ HO_8.out).2.1); rintro e w' ⟨rfl, ⟨nd, rfl⟩⟩; refine ⟨_, rfl, ?_⟩; (try (rw [bL_ wr]; generalize hq_ : World.drewN wr _ = wr; replace HO_7 := Aside0.mk (rqR hq_ HO_7.out); replace HO_8 := Aside0.mk (rqR hq_ HO_8.out); replace HB := Aside0.mk (rqH hq_ HB.out); clear hq_))))
   (try simp only [Act.put, lsa_, ls0_, ls1_])
   have H := HC21.out
   clear HC21
   by_cases c24 : t120 = true
   rotate_left
   ·replace c24 := Bool.eq_false_iff.mpr c24
    subst c24
    have H1 : (bj_.l0 k1 y107 y116 (wrap64 (x9_1 + 1))) = some r := by rw [if_neg (show ¬ (false = true) by decide)] at H; exact H
    clear H
    have H := H1
    clear H1
    have H' := Aside0.mk H
    clear H
    go_wp2
    go_roundg k1
    case measure => have := HK1.out; omega
    case rel => exact ⟨(wrap64 (x9_1 + 1)), (by first | rfl | (simp; done) | (simp [*]; done)), H', ⟨by have := HK1.out; omega⟩, ⟨rz HO_7.out⟩, ⟨rz HO_8.out⟩, ⟨bz HB.out⟩⟩
   subst c24
   have H1 : (some (rd y107 x9_1)) = some r := by rw [if_pos rfl] at H; exact H
   clear H
   have H := H1
   clear H1
   obtain rfl := Option.some.inj H
   have p121 : 0 ≤ (x9_1 : Int) := of_decide_eq_true (by assumption)
   have q121 : x9_1 < (y107.length : Int) := of_decide_eq_true (by assumption)
   obtain ⟨ad121, e121, hx121_0⟩ := Kd.at_int (Kd.as_ HO_7.out).2.2 x9_1 p121 q121
   obtain rfl : ad119 = ad121 := (by injection e121)
   replace p121 := eq_true p121
   replace q121 := eq_true q121
   go_wp2
   go_ret
   exact ⟨by first | rfl | (simp [*, ao_, an_] <;> rfl), bz HB.out⟩
end Go.Proofs.Ytiheginanghhjaa.Q
namespace Go.Proofs.Ytiheginanghhjaa.Q
open Go.RowKit Go.Proofs.YtiheginanghhjaaW.PrintWords Go.Proofs.YtiheginanghhjaaW.PrintLast Go.Proofs.YtiheginanghhjaaW.PrintMore
theorem rd_nat (l : List Int) (i : Nat) (h : i < l.length) : rd l (i : Int) = l[i] := by unfold rd; exact getD_in l _ i h
theorem has_ev (l : List Int) (hl : (l.length : Int) ≤ 1048576) (x : Int) : Ev (fun k => cd_.f k l x) (decide (x ∈ l)) := by
 have go : ∀ (d i : Nat), i + d = l.length → Ev (fun k => cd_.l0 k l x i) (decide (x ∈ l.drop i)) := by
  intro d
  induction d with
  | zero =>
   intro i h
   refine bi_ ?_
   simp only [cd_.l0]
   exact Ev_f (by omega) (Ev_n (by rw [List.drop_of_length_le (by omega)]; simp))
  | succ d ih =>
   intro i h
   refine bi_ ?_
   simp only [cd_.l0]
   rw [rd_nat l i (by omega), wr64s i (by omega), List.drop_eq_getElem_cons (show i < l.length by omega)]
   refine Ev_t (by omega) (Ev_t (by omega) ?_)
   by_cases e : l[i] = x
   rotate_left
   ·exact Ev_f e (Ev_at (ih (i + 1) (by omega)) (by rw [decide_eq_decide, List.mem_cons]; exact ⟨.inr, fun h => h.resolve_left (fun q => e q.symm)⟩))
   exact Ev_t e (Ev_n (by simp [e]))
 simp only [cd_.f]
 exact go l.length 0 (by omega)
theorem contains_ev (l : List Int) (hl : (l.length : Int) ≤ 1048576) (x : Int) : Ev (fun k => bP_.f k l x) (decide (x ∈ l)) := by
 have go : ∀ (d i : Nat), i + d = l.length → ∃ r : Int, Ev (fun k => aS_.l0 k l x (l.length : Int) i) r ∧ decide (r ≥ 0) = decide (x ∈ l.drop i) := by
  intro d
  induction d with
  | zero =>
   intro i h
   refine ⟨-1, bi_ ?_, ?_⟩
   ·simp only [aS_.l0]; exact Ev_f (by omega) (Ev_n rfl)
   ·rw [List.drop_of_length_le (by omega)]; simp
  | succ d ih =>
   intro i h
   by_cases e : x = l[i]
   rotate_left
   ·obtain ⟨r, r1, r2⟩ := ih (i + 1) (by omega)
    refine ⟨r, bi_ ?_, ?_⟩
    ·simp only [aS_.l0]
     rw [rd_nat l i (by omega), wr64s i (by omega)]
     exact Ev_t (by omega) (Ev_t (by omega) (Ev_t (by omega) (Ev_f e r1)))
    ·rw [r2, List.drop_eq_getElem_cons (show i < l.length by omega), decide_eq_decide, List.mem_cons]
     exact ⟨.inr, fun h => h.resolve_left e⟩
   refine ⟨i, bi_ ?_, ?_⟩
   ·simp only [aS_.l0]
    rw [rd_nat l i (by omega)]
    exact Ev_t (by omega) (Ev_t (by omega) (Ev_t (by omega) (Ev_t e (Ev_n rfl))))
   ·rw [List.drop_eq_getElem_cons (show i < l.length by omega), decide_eq_decide, List.mem_cons]
    exact ⟨fun _ => .inl e, fun _ => by omega⟩
 obtain ⟨r, r1, r2⟩ := go l.length 0 (by omega)
 simp only [bP_.f, aS_.f]
 exact Ev_b r1 (Ev_n (by rw [r2, List.drop_zero]))
theorem above_ev (m : List Ver) (hm : Prj m) : ∀ (n a : Nat), a ≤ n → 1 ≤ a → a ≤ m.length → ∃ l : List Int, l.length < a ∧
  (∀ out : List Int, out.length + a ≤ 2000 → Ev (fun k => aV_.l0 k m (a : Int) out) (out ++ l)) ∧
  (∀ (h : a - 1 < m.length) (out : List Int), out.length + a ≤ 2000 → Ev (fun k => bE_.l0 k m out (m[a - 1]'h).f1) (out ++ l)) ∧
  (∀ S1 S2 : List Int, S1.length ≤ 1000 → S2.length ≤ 1000 → (∀ x, x ∈ S1 ↔ x ∈ S2) → ∃ r : Int, (0 ≤ r ∧ r ≤ (m.length : Int)) ∧ (∀ pre : List Int, pre.length + a ≤ 2000 → Ev (fun k => bj_.l0 k (pre ++ (a : Int) :: l) S1 (pre.length : Int)) r) ∧ Ev (fun k => aF_.l0 k m S2 (a : Int)) r) := by
 intro n
 induction n with
 | zero => intro a h1 h2 h3; omega
 | succ n ih =>
  intro a h1 h2 h3
  obtain ⟨hlen, hall⟩ := hm
  have ha : a - 1 < m.length := by omega
  obtain ⟨p0, p1, p2, _⟩ := hall (a - 1) ha
  have ew : wrap64 ((a : Int) - 1) = ((a - 1 : Nat) : Int) := by rw [wr64 (by omega) (by omega)]; omega
  have er : ar_ m ((a - 1 : Nat) : Int) = m[a - 1]'ha := cC_ m (a - 1) ha
  have first : ∀ (l : List Int) (S1 S2 : List Int), S1.length ≤ 1000 → S2.length ≤ 1000 → (∀ x, x ∈ S1 ↔ x ∈ S2) → ∀ r, ((a : Int) ∈ S1 → r = (a : Int)) →
    (¬ (a : Int) ∈ S1 → (∀ pre : List Int, pre.length + a ≤ 2000 → Ev (fun k => bj_.l0 k (pre ++ (a : Int) :: l) S1 ((pre.length + 1 : Nat) : Int)) r) ∧ Ev (fun k => aF_.l0 k m S2 (m[a - 1]'ha).f1) r) →
    (∀ pre : List Int, pre.length + a ≤ 2000 → Ev (fun k => bj_.l0 k (pre ++ (a : Int) :: l) S1 (pre.length : Int)) r) ∧ Ev (fun k => aF_.l0 k m S2 (a : Int)) r := by
   intro l S1 S2 q1 q2 hS r hin hout
   have c2 := contains_ev S2 (by omega) (a : Int)
   constructor
   ·intro pre hpre
    have e : rd (pre ++ (a : Int) :: l) (pre.length : Int) = (a : Int) := by unfold rd; exact getD_at pre l _ _ _ rfl
    refine bi_ ?_
    simp only [bj_.l0]
    rw [e, wr64s pre.length (by omega)]
    refine Ev_t (by simp; omega) (Ev_t (by omega) (Ev_b (has_ev S1 (by omega) _) ?_))
    by_cases h : (a : Int) ∈ S1
    rotate_left
    ·exact Ev_f (by simpa using h) ((hout h).1 pre hpre)
    exact Ev_t (by simpa using h) (Ev_n (hin h).symm)
   ·refine bi_ ?_
    simp only [aF_.l0]
    rw [ew, er]
    refine Ev_t (by omega) (Ev_b c2 ?_)
    by_cases h : (a : Int) ∈ S1
    rotate_left
    ·exact Ev_f (by simpa using fun h' => h ((hS _).2 h')) (Ev_t (by omega) (Ev_t (by omega) (hout h).2))
    exact Ev_t (by simpa using (hS _).1 h) (Ev_n (hin h).symm)
  by_cases hp : (m[a - 1]'ha).f1 = 0
  rotate_left
  ·obtain ⟨q, hq⟩ := Int.eq_ofNat_of_zero_le p1
   have q1 : 1 ≤ q := by omega
   have q2 : q < a := by omega
   have hq1 : q - 1 < m.length := by omega
   have ew2 : wrap64 ((q : Int) - 1) = ((q - 1 : Nat) : Int) := by rw [wr64 (by omega) (by omega)]; omega
   have er2 : ar_ m ((q - 1 : Nat) : Int) = m[q - 1]'hq1 := cC_ m (q - 1) hq1
   obtain ⟨l, l1, l3, l4, l5⟩ := ih q (by omega) q1 (by omega)
   refine ⟨(q : Int) :: l, by simp; omega, fun out ho => bi_ ?_, fun h out ho => bi_ ?_, fun S1 S2 r1 r2 hS => ?_⟩
   ·simp only [aV_.l0]
    rw [ew, er, hq]
    refine Ev_f (by omega) (Ev_t (by omega) (Ev_t (by omega) (Ev_f (by omega) (Ev_t (by omega) ?_))))
    exact Ev_at (l3 (out ++ [(q : Int)]) (by simp; omega)) (by simp)
   ·simp only [bE_.l0]
    rw [hq, ew2, er2]
    refine Ev_t (by omega) (Ev_t (by omega) (Ev_t (by omega) (Ev_t (by omega) ?_)))
    exact Ev_at (l4 hq1 (out ++ [(q : Int)]) (by simp; omega)) (by simp)
   ·obtain ⟨r, u0, u1, u2⟩ := l5 S1 S2 r1 r2 hS
    refine ⟨if (a : Int) ∈ S1 then (a : Int) else r, by split <;> omega, first ((q : Int) :: l) S1 S2 r1 r2 hS _ (fun h => by rw [if_pos h]) (fun h => ?_)⟩
    rw [if_neg h]
    constructor
    ·intro pre hpre
     have := u1 (pre ++ [(a : Int)]) (by simp; omega)
     rw [List.append_assoc, List.singleton_append] at this
     simpa using this
    ·rw [hq]; exact u2
  refine ⟨[], by simp; omega, fun out ho => bi_ ?_, fun h out ho => bi_ ?_, fun S1 S2 q1 q2 hS => ?_⟩
  ·simp only [aV_.l0]
   rw [ew, er, List.append_nil]
   refine Ev_f (by omega) (Ev_t (by omega) (Ev_t (by omega) (Ev_t hp ?_)))
   rw [hp]
   refine bi_ ?_
   simp only [aV_.l0]
   exact Ev_t (by first | exact True.intro | rfl) (Ev_n rfl)
  ·simp only [bE_.l0]
   rw [hp, List.append_nil]
   exact Ev_f (by omega) (Ev_n rfl)
  ·refine ⟨if (a : Int) ∈ S1 then (a : Int) else 0, by split <;> omega, first [] S1 S2 q1 q2 hS _ (fun h => by rw [if_pos h]) (fun h => ?_)⟩
   rw [if_neg h]
   constructor
   ·intro pre hpre
    refine bi_ ?_
    simp only [bj_.l0]
    exact Ev_f (by first | (simp; done) | (simp; omega)) (Ev_n rfl)
   ·rw [hp]
    refine bi_ ?_
    simp only [aF_.l0]
    exact Ev_f (by omega) (Ev_n rfl)
theorem two_ev (m : List Ver) (hm : Prj m) (vp : Ev (fun k => aW_.f k m) true) (a b : Int) :
  ((decide (1 ≤ a) && decide (a ≤ (m.length : Int))) = true ∧ (decide (1 ≤ b) && decide (b ≤ (m.length : Int))) = true ∧ Ev (fun k => aG_.f k m [a, b]) 0 ∧ ∃ r : Int, (0 ≤ r ∧ r ≤ (m.length : Int)) ∧ Ev (fun k => bj_.f k m a b) r ∧ Ev (fun k => aF_.f k m a b) r) ∨
  (Ev (fun k => aG_.f k m [a, b]) 3 ∧ ((decide (1 ≤ a) && decide (a ≤ (m.length : Int))) = false ∨ (decide (1 ≤ a) && decide (a ≤ (m.length : Int))) = true ∧ (decide (1 ≤ b) && decide (b ≤ (m.length : Int))) = false)) := by
 have ra : rd [a, b] 0 = a := rfl
 have rb : rd [a, b] 1 = b := rfl
 have wa : ∀ x, bx_.f x 1 (m.length : Int) = some (decide (1 ≤ x) && decide (x ≤ (m.length : Int))) := fun x => within_f x 1 _
 have code : ∀ c, Ev (fun k => aG_.l0 k m [a, b] 2 0) c → Ev (fun k => aG_.f k m [a, b]) c := fun c h => by
  simp only [aG_.f]
  exact Ev_b vp (Ev_t rfl h)
 by_cases ca : (decide (1 ≤ a) && decide (a ≤ (m.length : Int))) = true
 case neg =>
  refine .inr ⟨code 3 (bi_ ?_), .inl (by simpa using ca)⟩
  simp only [aG_.l0, ra]
  exact Ev_t (by decide) (Ev_t (by decide) (Ev_t (by simp) (Ev_b (Ev_c (wa a)) (Ev_f ca (Ev_n rfl)))))
 by_cases cb : (decide (1 ≤ b) && decide (b ≤ (m.length : Int))) = true
 case neg =>
  refine .inr ⟨code 3 (bi_ ?_), .inr ⟨ca, by simpa using cb⟩⟩
  simp only [aG_.l0, ra]
  refine Ev_t (by decide) (Ev_t (by decide) (Ev_t (by simp) (Ev_b (Ev_c (wa a)) (Ev_t ca (bi_ ?_)))))
  rw [show wrap64 ((0 : Int) + 1) = 1 by rw [wr64 (by omega) (by omega)]; rfl]
  simp only [aG_.l0, rb]
  exact Ev_t (by decide) (Ev_t (by decide) (Ev_t (by simp) (Ev_b (Ev_c (wa b)) (Ev_f cb (Ev_n rfl)))))
 have ca2 := ca
 have cb2 := cb
 simp only [Bool.and_eq_true, decide_eq_true_eq] at ca2 cb2
 obtain ⟨u, hu⟩ := Int.eq_ofNat_of_zero_le (show 0 ≤ a by omega)
 obtain ⟨v, hv⟩ := Int.eq_ofNat_of_zero_le (show 0 ≤ b by omega)
 have hm2 := hm
 obtain ⟨hlen, _⟩ := hm2
 obtain ⟨l, l1, l2, l3, l4⟩ := above_ev m hm u u (Nat.le_refl _) (by omega) (by omega)
 obtain ⟨l', l1', l2', l3', _⟩ := above_ev m hm v v (Nat.le_refl _) (by omega) (by omega)
 obtain ⟨r, r0, r1, r2⟩ := l4 ((v : Int) :: l') (l' ++ [(v : Int)]) (by simp; omega) (by simp; omega) (fun x => by simp; exact Or.comm)
 have t1 := l2 [] (by simp; omega)
 have t2 := l2' [] (by simp; omega)
 rw [List.nil_append] at t1 t2
 refine .inl ⟨ca, cb, code 0 (bi_ ?_), r, r0, ?_, ?_⟩
 ·simp only [aG_.l0, ra]
  refine Ev_t (by decide) (Ev_t (by decide) (Ev_t (by simp) (Ev_b (Ev_c (wa a)) (Ev_t ca (bi_ ?_)))))
  rw [show wrap64 ((0 : Int) + 1) = 1 by rw [wr64 (by omega) (by omega)]; rfl]
  simp only [aG_.l0, rb]
  refine Ev_t (by decide) (Ev_t (by decide) (Ev_t (by simp) (Ev_b (Ev_c (wa b)) (Ev_t cb (bi_ ?_)))))
  rw [show wrap64 ((1 : Int) + 1) = 2 by rw [wr64 (by omega) (by omega)]; rfl]
  simp only [aG_.l0]
  exact Ev_f (by decide) (Ev_n rfl)
 ·simp only [bj_.f, aV_.f]
  rw [hu, hv]
  refine Ev_s (Ev_b t1 (Ev_t (by simp; omega) (Ev_s (Ev_b t2 (Ev_t (by simp; omega) ?_)))))
  have := r1 [] (by simp; omega)
  simpa using this
 ·simp only [aF_.f, bE_.f]
  rw [hu, hv]
  have hv1 : v - 1 < m.length := by omega
  have ew : wrap64 ((v : Int) - 1) = ((v - 1 : Nat) : Int) := by rw [wr64 (by omega) (by omega)]; omega
  have er : ar_ m ((v - 1 : Nat) : Int) = m[v - 1]'hv1 := cC_ m (v - 1) hv1
  rw [ew, er]
  have t3 := l3' hv1 [] (by simp; omega)
  rw [List.nil_append] at t3
  refine Ev_b (a := l') (Ev_t (by omega) (Ev_t (by omega) t3)) (Ev_t (by omega) r2)
theorem project_ne (m : List Ver) (hm : m.length < 1000000) : ∀ (d i k : Nat) (hj : i + d < m.length), bG_.l0 (k + d + 1) m i = some true → au_.f k (m[i + d]'hj).f3 = some true
 | d, i, k, hj, h => by
  simp only [bG_.l0] at h
  rw [if_pos (by omega), if_pos (by omega), wr64s i (by omega), cC_ m i (by omega)] at h
  split at h
  case isFalse => simp at h
  obtain ⟨t, _, h⟩ := Option.bind_eq_some_iff.1 h
  cases t with
  | false => simp at h
  | true =>
   rw [if_pos rfl] at h
   obtain ⟨t, _, h⟩ := Option.bind_eq_some_iff.1 h
   cases t with
   | false => simp at h
   | true =>
    rw [if_pos rfl] at h
    obtain ⟨t, h1, h⟩ := Option.bind_eq_some_iff.1 h
    cases t with
    | false => simp at h
    | true =>
     rw [if_pos rfl] at h
     cases d with
     | zero => exact h1
     | succ d =>
      have := project_ne m hm d (i + 1) k (by omega) (by rw [show k + d + 1 = k + (d + 1) by omega]; exact h)
      simp only [show i + 1 + d = i + (d + 1) by omega] at this
      exact this
def Vst (s : List Ent) : Prop := Stn s ∧ Ev (fun k => am_.f k s) true
theorem Vst_of (s : List Ent) (hl : (s.length : Int) ≤ 1048576) (h4 : Ev (fun k => au_.f k s) true) : Vst s := by
 obtain ⟨b, h1, h2, h3⟩ := stateN_ev s hl
 have := Ev_one h1 h4
 subst this
 exact ⟨h3 rfl, h2⟩
theorem projectN_ev (m : List Ver) (hl : (m.length : Int) ≤ 1048576) (hn : ∀ y ∈ m, (y.f2.size : Int) ≤ 1048576 ∧ (y.f3.length : Int) ≤ 1048576) : ∃ b, Ev (fun k => bG_.f k m) b ∧ Ev (fun k => aW_.f k m) b ∧ (b = true → Prj m ∧ ∀ y ∈ m, Vst y.f3) := by
 obtain ⟨b, h1, h2, h3⟩ := project_ev m hl hn
 refine ⟨b, h1, h2, fun hb => ?_⟩
 subst hb
 have hp := h3 rfl
 refine ⟨hp, fun y hy => ?_⟩
 obtain ⟨K, hK⟩ := h1
 have h16 := hp.1
 refine Vst_of _ (hn y hy).2 ?_
 obtain ⟨j, hj, rfl⟩ := List.mem_iff_getElem.1 hy
 refine ⟨K, fun k hk => ?_⟩
 have h := hK (k + j + 1) (by omega)
 simp only [bG_.f] at h
 have := project_ne m (by omega) j 0 k (by omega) h
 simpa using this
def u8s (c : List Int) : Prop := (c.length : Int) ≤ 1048576 ∧ ∀ x ∈ c, 0 ≤ x ∧ x < 256
theorem u64w (n : Int) : IntKind.u64.wrap n = n % 18446744073709551616 := by simp [IntKind.wrap, IntKind.bits, IntKind.signed]
theorem p64 : (2 : Int) ^ 64 = 18446744073709551616 := by decide
theorem u64wr (n : Int) (h0 : 0 ≤ n) (h1 : n < 2 ^ 64) : IntKind.u64.wrap n = n := by
 rw [p64] at h1
 rw [u64w]
 omega
theorem and255 (x : Int) (h : 0 ≤ x) (h2 : x < 18446744073709551616) : Go.bits .and .u64 x 255 = x % 256 := by
 have h3 : x < 2 ^ 64 := by rw [p64]; exact h2
 exact bits_mask .u64 64 (by decide) u64wr 8 (by decide) x h h3
theorem high_byte (z : Int) : 0 ≤ wrap64 (Go.bits .and .u64 (IntKind.u64.wrap z / 1099511627776) 255) ∧ wrap64 (Go.bits .and .u64 (IntKind.u64.wrap z / 1099511627776) 255) < 256 := by
 rw [u64w, and255 _ (by omega) (by omega), wr64 (by omega) (by omega)]
 omega
theorem next_ok (c : List Int) (hc : u8s c) (a s : Int) (h0 : 0 ≤ a) (h1 : a < 4611686018427387904) : ∃ v s', ca_.f c a s = some (v, a + 1, s') ∧ 0 ≤ v ∧ v < 256 := by
 have ha : wrap64 (a + 1) = a + 1 := wr64 (by omega) (by omega)
 unfold ca_.f
 rw [ha]
 by_cases c1 : a < (c.length : Int)
 rotate_left
 ·rw [if_neg c1]
  rw [if_neg (by omega)]
  have hb := high_byte ((IntKind.u64.wrap ((IntKind.u64.wrap (s * 6364136223846793005)))) + 1442695040888963407)
  exact ⟨_, _, rfl, hb.1, hb.2⟩
 rw [if_pos c1, if_pos h0, if_pos (by omega)]
 have hv : 0 ≤ rd c a ∧ rd c a < 256 := by
  unfold rd
  have hi : a.toNat < c.length := by omega
  rw [List.getD_eq_getElem?_getD, List.getElem?_eq_getElem hi]
  exact hc.2 _ (List.getElem_mem hi)
 rw [wr64 (x := rd c a) (by omega) (by omega)]
 exact ⟨_, _, rfl, hv.1, hv.2⟩
theorem pick_ok (c : List Int) (hc : u8s c) (a s n : Int) (h0 : 0 ≤ a) (h1 : a < 4611686018427387000) (hn : n < 65536) : ∃ v a' s', az_.f c a s n = some (v, a', s') ∧ a ≤ a' ∧ a' ≤ a + 2 ∧ 0 ≤ v ∧ (0 < n → v < n) := by
 unfold az_.f
 by_cases c1 : n ≤ 1
 rotate_left
 ·rw [if_neg c1]
  obtain ⟨v, s1, e1, v0, v1⟩ := next_ok c hc a s h0 (by omega)
  rw [e1]
  simp only [Option.bind_some]
  by_cases c2 : n > 200
  rotate_left
  ·rw [if_neg c2, if_neg (by omega)]
   refine ⟨_, _, _, rfl, by omega, by omega, Int.tmod_nonneg _ (by omega), fun _ => Int.tmod_lt_of_pos _ (by omega)⟩
  rw [if_pos c2]
  obtain ⟨v2, s2, e2, w0, w1⟩ := next_ok c hc (a + 1) s1 (by omega) (by omega)
  rw [e2]
  simp only [Option.bind_some]
  rw [if_neg (by omega), wr64 (x := v * 256) (by omega) (by omega), wr64 (by omega) (by omega)]
  refine ⟨_, _, _, rfl, by omega, by omega, Int.tmod_nonneg _ (by omega), fun _ => Int.tmod_lt_of_pos _ (by omega)⟩
 rw [if_pos c1]; exact ⟨0, a, s, rfl, by omega, by omega, by omega, by omega⟩
theorem text_ok (c : List Int) (hc : u8s c) (a s : Int) (l : List ByteArray) (h0 : 0 ≤ a) (h1 : a < 4611686018427387000) (hl : 0 < l.length) (hl2 : (l.length : Int) < 65536) : ∃ v a' s', bO_.f c a s l = some (v, a', s') ∧ a ≤ a' ∧ a' ≤ a + 2 ∧ v ∈ l := by
 unfold bO_.f
 obtain ⟨v, a', s', e, h2, h3, v0, v1⟩ := pick_ok c hc a s (l.length : Int) h0 h1 hl2
 have hv := v1 (by omega)
 rw [e]
 simp only [Option.bind_some]
 rw [if_pos v0, if_pos hv]
 refine ⟨_, _, _, rfl, h2, h3, ?_⟩
 unfold rdOf
 have hi : v.toNat < l.length := by omega
 rw [List.getD_eq_getElem?_getD, List.getElem?_eq_getElem hi]
 exact List.getElem_mem hi
theorem among_ok (c : List Int) (hc : u8s c) (a s : Int) (l : List Int) (h0 : 0 ≤ a) (h1 : a < 4611686018427387000) (hl : 0 < l.length) (hl2 : (l.length : Int) < 65536) : ∃ v a' s', ch_.f c a s l = some (v, a', s') ∧ a ≤ a' ∧ a' ≤ a + 2 ∧ v ∈ l := by
 unfold ch_.f
 obtain ⟨v, a', s', e, h2, h3, v0, v1⟩ := pick_ok c hc a s (l.length : Int) h0 h1 hl2
 have hv := v1 (by omega)
 rw [e]
 simp only [Option.bind_some]
 rw [if_pos v0, if_pos hv]
 refine ⟨_, _, _, rfl, h2, h3, ?_⟩
 unfold rd
 have hi : v.toNat < l.length := by omega
 rw [List.getD_eq_getElem?_getD, List.getElem?_eq_getElem hi]
 exact List.getElem_mem hi
theorem one_ok (c : List Int) (hc : u8s c) (a s n : Int) (h0 : 0 ≤ a) (h1 : a < 4611686018427387000) (hn : n < 65536) : ∃ v a' s', cx_.f c a s n = some (v, a', s') ∧ a ≤ a' ∧ a' ≤ a + 2 := by
 unfold cx_.f
 obtain ⟨v, a', s', e, h2, h3, v0, v1⟩ := pick_ok c hc a s n h0 h1 hn
 rw [e]
 exact ⟨_, _, _, rfl, h2, h3⟩
theorem max_f (a b : Int) : ∃ v, cJ_.f a b = some v ∧ ((a ≤ b ∧ v = b) ∨ (b ≤ a ∧ v = a)) := by
 unfold cJ_.f
 by_cases h : a > b
 rotate_left
 ·rw [if_neg h]; exact ⟨b, rfl, Or.inl ⟨by omega, rfl⟩⟩
 rw [if_pos h]; exact ⟨a, rfl, Or.inr ⟨by omega, rfl⟩⟩
theorem min_f (a b : Int) : ∃ v, cL_.f a b = some v ∧ ((a ≤ b ∧ v = a) ∨ (b ≤ a ∧ v = b)) := by
 unfold cL_.f
 by_cases h : a < b
 rotate_left
 ·rw [if_neg h]; exact ⟨b, rfl, Or.inr ⟨by omega, rfl⟩⟩
 rw [if_pos h]; exact ⟨a, rfl, Or.inl ⟨by omega, rfl⟩⟩
theorem name_of (i : Int) (h0 : 0 ≤ i) (h1 : i ≤ 9) : ∃ t, cf_.f = some t ∧ i < t.length ∧ spi (rdOf ByteArray.empty t i).toList = i ∧ (rdOf ByteArray.empty t i).size ≤ 8 := by
 unfold cf_.f
 have hi : i = 0 ∨ i = 1 ∨ i = 2 ∨ i = 3 ∨ i = 4 ∨ i = 5 ∨ i = 6 ∨ i = 7 ∨ i = 8 ∨ i = 9 := by omega
 rcases hi with rfl | rfl | rfl | rfl | rfl | rfl | rfl | rfl | rfl | rfl <;> exact ⟨_, rfl, by decide, by decide +kernel, by decide +kernel⟩
theorem l07Draw_ok (c : List Int) (hc : u8s c) (a s : Int) (h0 : 0 ≤ a) (h1 : a < 4611686018427380000) : ∃ n sh g a' s', br_.f c a s = some (n, sh, g, a', s') ∧ a ≤ a' ∧ a' ≤ a + 8 ∧ n.size ≤ 8 ∧ vVen n.toList sh g = true := by
 obtain ⟨k, a1, s1, e1, p1, q1, k0, k1⟩ := pick_ok c hc a s 10 h0 (by omega) (by omega)
 have hk := k1 (by omega)
 obtain ⟨t, et, t1, t2, t3, t4, t5⟩ := shade_of k k0 (by omega)
 obtain ⟨m, em, m1, m2, m3⟩ := name_of k k0 (by omega)
 obtain ⟨d, a2, s2, e2, p2, q2, d0, d1⟩ := pick_ok c hc a1 s1 21 (by omega) (by omega) (by omega)
 have hd := d1 (by omega)
 obtain ⟨g, a3, s3, e3, p3, q3, g0, g1⟩ := pick_ok c hc a2 s2 180 (by omega) (by omega) (by omega)
 have hg := g1 (by omega)
 obtain ⟨r, a4, s4, e4, p4, q4, hr⟩ := among_ok c hc a3 s3 [g, g, 0, 90, 45] (by omega) (by omega) (by simp) (by simp)
 obtain ⟨x, ex, hx⟩ := max_f 0 (wrap64 (wrap64 (rd (rd_L4 t k) 0 + d) - 10))
 obtain ⟨y, ey, hy⟩ := min_f 100 x
 have w1 : wrap64 (wrap64 (rd (rd_L4 t k) 0 + d) - 10) = rd shades k + d - 10 := by rw [t3, wr64 (x := rd shades k + d) (by omega) (by omega), wr64 (by omega) (by omega)]
 rw [w1] at hx
 refine ⟨rdOf ByteArray.empty m k, y, r, a4, s4, ?_, by omega, by omega, m3, ?_⟩
 ·unfold br_.f
  rw [e1]
  simp only [Option.bind_some]
  rw [et]
  simp only [Option.bind_some]
  rw [if_pos k0, if_pos t1, if_pos (by omega), e2]
  simp only [Option.bind_some]
  rw [em]
  simp only [Option.bind_some]
  rw [if_pos m1, ex]
  simp only [Option.bind_some]
  rw [ey]
  simp only [Option.bind_some]
  rw [e3]
  simp only [Option.bind_some]
  rw [e4]
  rfl
 ·have hr2 : 0 ≤ r ∧ r ≤ 179 := by
   simp only [List.mem_cons, List.not_mem_nil, or_false] at hr
   omega
  unfold vVen
  rw [m2]
  simp only [Bool.and_eq_true, decide_eq_true_eq]
  omega
end Go.Proofs.Ytiheginanghhjaa.Q
