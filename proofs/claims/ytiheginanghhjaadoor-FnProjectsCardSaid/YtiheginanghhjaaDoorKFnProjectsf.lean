/- changes lead from one state to the other, undoing gives the state before, versions come from earlier ones This text holds the functions' walks and the words for them. -/
import Derived.KernelRfl
import Derived.Lib.Bytealg
import Derived.Lib.SlicesCompact
import Derived.Laws.BitsLemmas
import Derived.Lib.ItoaLen
import Derived.Lib.SplitLaws
import Derived.Test.YtiheginanghhjaaDoorKFnProjectsa
import Derived.Test.YtiheginanghhjaaDoorKFnProjectsc
import Derived.Test.YtiheginanghhjaaDoorKFnProjectsd
import Derived.Test.YtiheginanghhjaaDoorKFnProjectse
import Derived.Test.YtiheginanghhjaaDoorKFnProjectsb
set_option linter.unusedVariables false
set_option linter.unusedSimpArgs false
namespace Go.Proofs.YtiheginanghhjaaDoor.Q
open Go.RowKit Go.Proofs.YtiheginanghhjaaDoorW.PrintWords Go.Proofs.YtiheginanghhjaaDoorW.PrintLast Go.Proofs.YtiheginanghhjaaDoorW.PrintMore
attribute [local go_sem] aJ_ aI_ aW_ aX_ az_ aA_ aG_ aH_
mutual
def ae_.j0 : Nat → List Int → List (S48) → List (S59) → Bool → Option (Bool)
 | 0, _, _, _, _ => none
 | k + 1, x1, x5, x6, x59 => if x59 = true then (some false) else ((dv_.f x1 0 (wrap64 ((x5.length : Int) + 1))).bind fun t120 => ((aV_.f k x5 t120 (⟨#[110, 101, 120, 116]⟩ : ByteArray) x6).bind fun bt121 => ((bt_.f k bt121.1 (wrap64 ((x5.length : Int) + 1))).bind fun bt125 => ((ch_.f k bt121.1 (wrap64 ((x5.length : Int) + 1))).bind fun bt129 => ((bx_.f k bt121.1).bind fun bt133 => ((bS_.f k bt121.1 (wrap64 ((x5.length : Int) + 1)) (wrap64 ((x5.length : Int) + 1))).bind fun bt137 => (if bt121.2 = 0 then (if (bt121.1.length : Int) = (wrap64 ((x5.length : Int) + 1)) then (if bt125.2 = 0 then (if (bt125.1.length : Int) = (wrap64 ((wrap64 ((x5.length : Int) + 1)) + 1)) then (if bt129.2 = 0 then (if bt133.2 = 0 then ((ba_.f k bt133.1 (wrap64 ((x5.length : Int) + 1))).bind fun t139 => (if t139 = true then (if bt137.2 = 0 then (if bt137.1 = (wrap64 ((x5.length : Int) + 1)) then ((bU_.f k bt125.1).bind fun t140 => (ae_.j1 k x5 t120 bt121.1 (wrap64 ((x5.length : Int) + 1)) bt125.1 bt129.1 (!t140))) else (ae_.j1 k x5 t120 bt121.1 (wrap64 ((x5.length : Int) + 1)) bt125.1 bt129.1 true)) else (ae_.j1 k x5 t120 bt121.1 (wrap64 ((x5.length : Int) + 1)) bt125.1 bt129.1 true)) else (ae_.j1 k x5 t120 bt121.1 (wrap64 ((x5.length : Int) + 1)) bt125.1 bt129.1 true))) else (ae_.j1 k x5 t120 bt121.1 (wrap64 ((x5.length : Int) + 1)) bt125.1 bt129.1 true)) else (ae_.j1 k x5 t120 bt121.1 (wrap64 ((x5.length : Int) + 1)) bt125.1 bt129.1 true)) else (ae_.j1 k x5 t120 bt121.1 (wrap64 ((x5.length : Int) + 1)) bt125.1 bt129.1 true)) else (ae_.j1 k x5 t120 bt121.1 (wrap64 ((x5.length : Int) + 1)) bt125.1 bt129.1 true)) else (ae_.j1 k x5 t120 bt121.1 (wrap64 ((x5.length : Int) + 1)) bt125.1 bt129.1 true)) else (ae_.j1 k x5 t120 bt121.1 (wrap64 ((x5.length : Int) + 1)) bt125.1 bt129.1 true))))))))
def ae_.j1 : Nat → List (S48) → Int → List (S48) → Int → List (S48) → List Int → Bool → Option (Bool)
 | 0, _, _, _, _, _, _, _ => none
 | k + 1, x5, x12, x13, x15, x16, x18, x145 => if x145 = true then (some false) else (if x12 > 0 then (if 0 ≤ (wrap64 (x12 - 1)) then (if (wrap64 (x12 - 1)) < (x5.length : Int) then (if 0 ≤ x15 then (if x15 < (x16.length : Int) then ((aU_.f k ((ar_ x16 x15).f3) ((ar_ x5 (wrap64 (x12 - 1))).f3)).bind fun t146 => (if t146 = true then ((ba_.f k x18 x12).bind fun t147 => (ae_.j2 k x13 x15 x18 ((decide (x12 > 0)) != t147))) else (ae_.j2 k x13 x15 x18 true))) else (none)) else (none)) else (none)) else (none)) else (if 0 ≤ x15 then (if x15 < (x16.length : Int) then ((aU_.f k ((ar_ x16 x15).f3) (([] : List (S59)))).bind fun t155 => (if t155 = true then ((ba_.f k x18 x12).bind fun t156 => (ae_.j4 k x13 x15 x18 ((decide (x12 > 0)) != t156))) else (ae_.j4 k x13 x15 x18 true))) else (none)) else (none)))
def ae_.j2 : Nat → List (S48) → Int → List Int → Bool → Option (Bool)
 | 0, _, _, _, _ => none
 | k + 1, x13, x15, x18, x170 => if x170 = true then (some false) else (ae_.l0 k x13 x15 x18 0)
def ae_.l0 : Nat → List (S48) → Int → List Int → Int → Option (Bool)
 | 0, _, _, _, _ => none
 | k + 1, x13, x15, x18, x25 => if x25 < (x18.length : Int) then (if 0 ≤ x25 then (if (rd x18 x25) < 1 then (some false) else (if (rd x18 x25) ≥ x15 then (some false) else (if x25 > 0 then (if 0 ≤ (wrap64 (x25 - 1)) then (if (wrap64 (x25 - 1)) < (x18.length : Int) then (if (rd x18 x25) ≥ (rd x18 (wrap64 (x25 - 1))) then (some false) else (ae_.l0 k x13 x15 x18 (wrap64 (x25 + 1)))) else (none)) else (none)) else (ae_.l0 k x13 x15 x18 (wrap64 (x25 + 1)))))) else (none)) else (if 0 ≤ (wrap64 (x15 - 1)) then (if (wrap64 (x15 - 1)) < (x13.length : Int) then ((am_.f k ((ar_ x13 (wrap64 (x15 - 1))).f0) ((ar_ x13 (wrap64 (x15 - 1))).f1) ((ar_ x13 (wrap64 (x15 - 1))).f2) ((ar_ x13 (wrap64 (x15 - 1))).f3)).bind fun t153 => (some (t153.toList != ([] : List UInt8)))) else (none)) else (none))
def ae_.j4 : Nat → List (S48) → Int → List Int → Bool → Option (Bool)
 | 0, _, _, _, _ => none
 | k + 1, x13, x15, x18, x170 => if x170 = true then (some false) else (ae_.l0 k x13 x15 x18 0)
end
def ae_.f (k : Nat) (l0 : List Int) (l1 : List Int) : Option (Bool) := (cT_.f l0 l1).bind fun t101 => (if t101 = true then (some true) else ((cq_.f k l0).bind fun t102 => ((cL_.f k l1).bind fun t105 => ((co_.f k l0 t105).bind fun t108 => ((av_.f k t105 t108).bind fun bt111 => ((aq_.f k t105 bt111.1).bind fun bt115 => (if bt111.2 = 0 then (if bt115.2 = 0 then ((aU_.f k bt115.1 t108).bind fun t119 => (ae_.j0 k l1 t102 t105 (!t119))) else (ae_.j0 k l1 t102 t105 true)) else (ae_.j0 k l1 t102 t105 true))))))))
set_option maxHeartbeats 8000000 in
set_option maxRecDepth 100000 in
theorem ae_.calls (k : Nat) (A0 : Option Addr) (c0 : Nat) (l0 : List Int) (A1 : Option Addr) (c1 : Nat) (l1 : List Int) (r : Bool) (w : World) (hr0 : Kd.C (Kd.int .u8) w A0 l0.length l0) (hc0 : l0.length ≤ c0) (hr1 : Kd.C (Kd.int .u8) w A1 l1.length l1) (hc1 : l1.length ≤ c1) (hTab_ : Tab_ w) (h : ae_.f k l0 l1 = some r) :
  Calls Tryd.prog 3 #[.slice A0 l0.length c0, .slice A1 l1.length c1] w fun e w' => e = .returned (.bool r) ∧ Below w.heap.size w w' := by
 have hu48 := Tryd.underlying48
 have HTab_ := Aside0.mk hTab_
 clear hTab_
 have HR0 := Aside0.mk hr0
 have HC0 := Aside0.mk hc0
 clear hr0 hc0
 have HR1 := Aside0.mk hr1
 have HC1 := Aside0.mk hc1
 clear hr1 hc1
 have HB := Aside0.mk (Below.refl w.heap.size w)
 have H : ((cT_.f l0 l1).bind fun t101 => (if t101 = true then (some true) else ((cq_.f k l0).bind fun t102 => ((cL_.f k l1).bind fun t105 => ((co_.f k l0 t105).bind fun t108 => ((av_.f k t105 t108).bind fun bt111 => ((aq_.f k t105 bt111.1).bind fun bt115 => (if bt111.2 = 0 then (if bt115.2 = 0 then ((aU_.f k bt115.1 t108).bind fun t119 => (ae_.j0 k l1 t102 t105 (!t119))) else (ae_.j0 k l1 t102 t105 true)) else (ae_.j0 k l1 t102 t105 true))))))))) = some r := h
 clear h
 replace H := Option.bind_eq_some_iff.mp H
 obtain ⟨t101, A30, H⟩ := H
 (try dsimp only at H)
 have A3 := Aside0.mk A30
 clear A30
 have HC4 := Aside0.mk H
 clear H
 go_enter Tryd.func3, Tryd.ntmps3
 go_upto_if 28 with (first | (go_at_call 4; (with_reducible refine (cT_.calls _ _ l0 _ _ l1 t101 _ ?side1 ?side2 ?side3 ?side4 A3.out).mono ?_); (case side1 => exact cz HR0.out); (case side2 => exact HC0.out); (case side3 => exact cz HR1.out); (case side4 => exact HC1.out); rintro e w' ⟨rfl, ⟨nd, rfl⟩⟩; (try first | exact ⟨rfl, _, World.drewN_drewN _ _ _⟩ | exact ⟨rfl, _, Eq.trans (World.drewN_drewN _ _ _) (congrArg (World.drewN _) (Nat.add_assoc _ _ _))⟩)))
 repeat (go_quiet (first | (go_at_call 4; (with_reducible refine (cT_.calls _ _ l0 _ _ l1 t101 _ ?side1 ?side2 ?side3 ?side4 A3.out).mono ?_); (case side1 => exact cz HR0.out); (case side2 => exact HC0.out); (case side3 => exact cz HR1.out); (case side4 => exact HC1.out); rintro e w' ⟨rfl, ⟨nd, rfl⟩⟩; (try first | exact ⟨rfl, _, World.drewN_drewN _ _ _⟩ | exact ⟨rfl, _, Eq.trans (World.drewN_drewN _ _ _) (congrArg (World.drewN _) (Nat.add_assoc _ _ _))⟩))); go_upto_if 28 with (first | (go_at_call 4; (with_reducible refine (cT_.calls _ _ l0 _ _ l1 t101 _ ?side1 ?side2 ?side3 ?side4 A3.out).mono ?_); (case side1 => exact cz HR0.out); (case side2 => exact HC0.out); (case side3 => exact cz HR1.out); (case side4 => exact HC1.out); rintro e w' ⟨rfl, ⟨nd, rfl⟩⟩; (try first | exact ⟨rfl, _, World.drewN_drewN _ _ _⟩ | exact ⟨rfl, _, Eq.trans (World.drewN_drewN _ _ _) (congrArg (World.drewN _) (Nat.add_assoc _ _ _))⟩))))
 (try simp only [Act.put, lsa_, ls0_, ls1_])
 have H := HC4.out
 clear HC4
 by_cases c5 : t101 = true
 rotate_left
 ·replace c5 := Bool.eq_false_iff.mpr c5
  subst c5
  have H1 : ((cq_.f k l0).bind fun t102 => ((cL_.f k l1).bind fun t105 => ((co_.f k l0 t105).bind fun t108 => ((av_.f k t105 t108).bind fun bt111 => ((aq_.f k t105 bt111.1).bind fun bt115 => (if bt111.2 = 0 then (if bt115.2 = 0 then ((aU_.f k bt115.1 t108).bind fun t119 => (ae_.j0 k l1 t102 t105 (!t119))) else (ae_.j0 k l1 t102 t105 true)) else (ae_.j0 k l1 t102 t105 true))))))) = some r := by rw [if_neg (show ¬ (false = true) by decide)] at H; exact H
  clear H
  have H := H1
  clear H1
  replace H := Option.bind_eq_some_iff.mp H
  obtain ⟨t102, A60, H⟩ := H
  (try dsimp only at H)
  have A6 := Aside0.mk A60
  clear A60
  replace H := Option.bind_eq_some_iff.mp H
  obtain ⟨t105, A70, H⟩ := H
  (try dsimp only at H)
  have A7 := Aside0.mk A70
  clear A70
  replace H := Option.bind_eq_some_iff.mp H
  obtain ⟨t108, A80, H⟩ := H
  (try dsimp only at H)
  have A8 := Aside0.mk A80
  clear A80
  replace H := Option.bind_eq_some_iff.mp H
  obtain ⟨⟨t111, t112⟩, A90, H⟩ := H
  (try dsimp only at H)
  have A9 := Aside0.mk A90
  clear A90
  replace H := Option.bind_eq_some_iff.mp H
  obtain ⟨⟨t115, t116⟩, A100, H⟩ := H
  (try dsimp only at H)
  have A10 := Aside0.mk A100
  clear A100
  have HC11 := Aside0.mk H
  clear H
  go_upto_region 8 with (first | (go_at_call 5; (with_reducible refine (cq_.calls k _ _ l0 t102 _ ?side1 ?side2 A6.out).mono ?_); (case side1 => exact cz (Kd.bk_ HR0.out HB.out)); (case side2 => exact HC0.out); rintro e w12 ⟨v103, rfl, ho0, hb⟩; have HO104 := Aside0.mk (Kd.du_ ho0 (ag_ (bz HB.out))); replace HB := Aside0.mk (ab_ (bz HB.out) hb); (try clear hb); (try clear ho0)) | (go_at_call 6; (with_reducible refine (cL_.calls k _ _ l1 t105 _ ?side1 ?side2 A7.out).mono ?_); (case side1 => exact cz (Kd.bk_ HR1.out HB.out)); (case side2 => exact HC1.out); rintro e w13 ⟨v106, rfl, ho0, hb⟩; replace HO104 := Aside0.mk (Kd.bW_ (sz HO104.out) (Kd.bh_ ho0) hb); have HO107 := Aside0.mk (Kd.bi_ ho0 (ag_ (bz HB.out))); replace HB := Aside0.mk (ab_ (bz HB.out) hb); (try clear hb); (try clear ho0); obtain ⟨Ao14, co14, eo14⟩ := Kd.bo_ HO107.out; subst eo14) | (go_at_call 7; (with_reducible refine (co_.calls k _ _ l0 _ _ t105 t108 _ ?side1 ?side2 ?side3 ?side4 A8.out).mono ?_); (case side1 => exact cz (Kd.bk_ HR0.out HB.out)); (case side2 => exact HC0.out); (case side3 => exact cz (Kd.aj_ HO107.out).2.2); (case side4 => exact (Kd.aj_ HO107.out).2.1); rintro e w15 ⟨v109, rfl, ho0, hb⟩; replace HO104 := Aside0.mk (Kd.bW_ (sz HO104.out) (Kd.bh_ ho0) hb); have HO110 := Aside0.mk (Kd.bi_ (Kd.bG_ ho0 (Kd.R_lt (rz HO107.out))) (ag_ (bz HB.out))); replace HO107 := Aside0.mk (Kd.aY_ (rz HO107.out) (Kd.bh_ ho0) hb); replace HB := Aside0.mk (ab_ (bz HB.out) hb); (try clear hb); (try clear ho0); obtain ⟨Ao16, co16, eo16⟩ := Kd.bo_ HO110.out; subst eo16) | (go_at_call 8; (with_reducible refine (av_.calls k _ _ t105 _ _ t108 t111 t112 _ ?side1 ?side2 ?side3 ?side4 A9.out).mono ?_); (case side1 => exact cz (Kd.aj_ HO107.out).2.2); (case side2 => exact (Kd.aj_ HO107.out).2.1); (case side3 => exact cz (Kd.aj_ HO110.out).2.2); (case side4 => exact (Kd.aj_ HO110.out).2.1); rintro e w17 ⟨v113, rfl, ho0, hb⟩; replace HO104 := Aside0.mk (Kd.bF_ (sz HO104.out) hb); replace HO107 := Aside0.mk (Kd.aM_ (rz HO107.out) hb); replace HO110 := Aside0.mk (Kd.aM_ (rz HO110.out) hb); have HO114 := Aside0.mk (Kd.bi_ ho0 (ag_ (bz HB.out))); replace HB := Aside0.mk (ab_ (bz HB.out) hb); (try clear hb); (try clear ho0); obtain ⟨Ao18, co18, eo18⟩ := Kd.bo_ HO114.out; subst eo18) | (go_at_call 9; (with_reducible refine (aq_.calls k _ _ t105 _ _ t111 t115 t116 _ ?side1 ?side2 ?side3 ?side4 A10.out).mono ?_); (case side1 => exact cz (Kd.aj_ HO107.out).2.2); (case side2 => exact (Kd.aj_ HO107.out).2.1); (case side3 => exact cz (Kd.aj_ HO114.out).2.2); (case side4 => exact (Kd.aj_ HO114.out).2.1); rintro e w19 ⟨v117, rfl, ho0, hb⟩; replace HO104 := Aside0.mk (Kd.bW_ (sz HO104.out) (Kd.bh_ ho0) hb); replace HO114 := Aside0.mk (Kd.aM_ (rz HO114.out) hb); have HO118 := Aside0.mk (Kd.bi_ (Kd.bG_ (Kd.bG_ ho0 (Kd.R_lt (rz HO107.out))) (Kd.R_lt (rz HO110.out))) (ag_ (bz HB.out))); replace HO107 := Aside0.mk (Kd.aY_ (rz HO107.out) (Kd.bh_ ho0) hb); replace HO110 := Aside0.mk (Kd.aY_ (rz HO110.out) (Kd.bh_ ho0) hb); replace HB := Aside0.mk (ab_ (bz HB.out) hb); (try clear hb); (try clear ho0)))
  repeat (go_quiet (first | (go_at_call 5; (with_reducible refine (cq_.calls k _ _ l0 t102 _ ?side1 ?side2 A6.out).mono ?_); (case side1 => exact cz (Kd.bk_ HR0.out HB.out)); (case side2 => exact HC0.out); rintro e w12 ⟨v103, rfl, ho0, hb⟩; have HO104 := Aside0.mk (Kd.du_ ho0 (ag_ (bz HB.out))); replace HB := Aside0.mk (ab_ (bz HB.out) hb); (try clear hb); (try clear ho0)) | (go_at_call 6; (with_reducible refine (cL_.calls k _ _ l1 t105 _ ?side1 ?side2 A7.out).mono ?_); (case side1 => exact cz (Kd.bk_ HR1.out HB.out)); (case side2 => exact HC1.out); rintro e w13 ⟨v106, rfl, ho0, hb⟩; replace HO104 := Aside0.mk (Kd.bW_ (sz HO104.out) (Kd.bh_ ho0) hb); have HO107 := Aside0.mk (Kd.bi_ ho0 (ag_ (bz HB.out))); replace HB := Aside0.mk (ab_ (bz HB.out) hb); (try clear hb); (try clear ho0); obtain ⟨Ao14, co14, eo14⟩ := Kd.bo_ HO107.out; subst eo14) | (go_at_call 7; (with_reducible refine (co_.calls k _ _ l0 _ _ t105 t108 _ ?side1 ?side2 ?side3 ?side4 A8.out).mono ?_); (case side1 => exact cz (Kd.bk_ HR0.out HB.out)); (case side2 => exact HC0.out); (case side3 => exact cz (Kd.aj_ HO107.out).2.2); (case side4 => exact (Kd.aj_ HO107.out).2.1); rintro e w15 ⟨v109, rfl, ho0, hb⟩; replace HO104 := Aside0.mk (Kd.bW_ (sz HO104.out) (Kd.bh_ ho0) hb); have HO110 := Aside0.mk (Kd.bi_ (Kd.bG_ ho0 (Kd.R_lt (rz HO107.out))) (ag_ (bz HB.out))); replace HO107 := Aside0.mk (Kd.aY_ (rz HO107.out) (Kd.bh_ ho0) hb); replace HB := Aside0.mk (ab_ (bz HB.out) hb); (try clear hb); (try clear ho0); obtain ⟨Ao16, co16, eo16⟩ := Kd.bo_ HO110.out; subst eo16) | (go_at_call 8; (with_reducible refine (av_.calls k _ _ t105 _ _ t108 t111 t112 _ ?side1 ?side2 ?side3 ?side4 A9.out).mono ?_); (case side1 => exact cz (Kd.aj_ HO107.out).2.2); (case side2 => exact (Kd.aj_ HO107.out).2.1); (case side3 => exact cz (Kd.aj_ HO110.out).2.2); (case side4 => exact (Kd.aj_ HO110.out).2.1); rintro e w17 ⟨v113, rfl, ho0, hb⟩; replace HO104 := Aside0.mk (Kd.bF_ (sz HO104.out) hb); replace HO107 := Aside0.mk (Kd.aM_ (rz HO107.out) hb); replace HO110 := Aside0.mk (Kd.aM_ (rz HO110.out) hb); have HO114 := Aside0.mk (Kd.bi_ ho0 (ag_ (bz HB.out))); replace HB := Aside0.mk (ab_ (bz HB.out) hb); (try clear hb); (try clear ho0); obtain ⟨Ao18, co18, eo18⟩ := Kd.bo_ HO114.out; subst eo18) | (go_at_call 9; (with_reducible refine (aq_.calls k _ _ t105 _ _ t111 t115 t116 _ ?side1 ?side2 ?side3 ?side4 A10.out).mono ?_); (case side1 => exact cz (Kd.aj_ HO107.out).2.2); (case side2 => exact (Kd.aj_ HO107.out).2.1); (case side3 => exact cz (Kd.aj_ HO114.out).2.2); (case side4 => exact (Kd.aj_ HO114.out).2.1); rintro e w19 ⟨v117, rfl, ho0, hb⟩; replace HO104 := Aside0.mk (Kd.bW_ (sz HO104.out) (Kd.bh_ ho0) hb); replace HO114 := Aside0.mk (Kd.aM_ (rz HO114.out) hb); have HO118 := Aside0.mk (Kd.bi_ (Kd.bG_ (Kd.bG_ ho0 (Kd.R_lt (rz HO107.out))) (Kd.R_lt (rz HO110.out))) (ag_ (bz HB.out))); replace HO107 := Aside0.mk (Kd.aY_ (rz HO107.out) (Kd.bh_ ho0) hb); replace HO110 := Aside0.mk (Kd.aY_ (rz HO110.out) (Kd.bh_ ho0) hb); replace HB := Aside0.mk (ab_ (bz HB.out) hb); (try clear hb); (try clear ho0))); go_upto_region 8 with (first | (go_at_call 5; (with_reducible refine (cq_.calls k _ _ l0 t102 _ ?side1 ?side2 A6.out).mono ?_); (case side1 => exact cz (Kd.bk_ HR0.out HB.out)); (case side2 => exact HC0.out); rintro e w12 ⟨v103, rfl, ho0, hb⟩; have HO104 := Aside0.mk (Kd.du_ ho0 (ag_ (bz HB.out))); replace HB := Aside0.mk (ab_ (bz HB.out) hb); (try clear hb); (try clear ho0)) | (go_at_call 6; (with_reducible refine (cL_.calls k _ _ l1 t105 _ ?side1 ?side2 A7.out).mono ?_); (case side1 => exact cz (Kd.bk_ HR1.out HB.out)); (case side2 => exact HC1.out); rintro e w13 ⟨v106, rfl, ho0, hb⟩; replace HO104 := Aside0.mk (Kd.bW_ (sz HO104.out) (Kd.bh_ ho0) hb); have HO107 := Aside0.mk (Kd.bi_ ho0 (ag_ (bz HB.out))); replace HB := Aside0.mk (ab_ (bz HB.out) hb); (try clear hb); (try clear ho0); obtain ⟨Ao14, co14, eo14⟩ := Kd.bo_ HO107.out; subst eo14) | (go_at_call 7; (with_reducible refine (co_.calls k _ _ l0 _ _ t105 t108 _ ?side1 ?side2 ?side3 ?side4 A8.out).mono ?_); (case side1 => exact cz (Kd.bk_ HR0.out HB.out)); (case side2 => exact HC0.out); (case side3 => exact cz (Kd.aj_ HO107.out).2.2); (case side4 => exact (Kd.aj_ HO107.out).2.1); rintro e w15 ⟨v109, rfl, ho0, hb⟩; replace HO104 := Aside0.mk (Kd.bW_ (sz HO104.out) (Kd.bh_ ho0) hb); have HO110 := Aside0.mk (Kd.bi_ (Kd.bG_ ho0 (Kd.R_lt (rz HO107.out))) (ag_ (bz HB.out))); replace HO107 := Aside0.mk (Kd.aY_ (rz HO107.out) (Kd.bh_ ho0) hb); replace HB := Aside0.mk (ab_ (bz HB.out) hb); (try clear hb); (try clear ho0); obtain ⟨Ao16, co16, eo16⟩ := Kd.bo_ HO110.out; subst eo16) | (go_at_call 8; (with_reducible refine (av_.calls k _ _ t105 _ _ t108 t111 t112 _ ?side1 ?side2 ?side3 ?side4 A9.out).mono ?_); (case side1 => exact cz (Kd.aj_ HO107.out).2.2); (case side2 => exact (Kd.aj_ HO107.out).2.1); (case side3 => exact cz (Kd.aj_ HO110.out).2.2); (case side4 => exact (Kd.aj_ HO110.out).2.1); rintro e w17 ⟨v113, rfl, ho0, hb⟩; replace HO104 := Aside0.mk (Kd.bF_ (sz HO104.out) hb); replace HO107 := Aside0.mk (Kd.aM_ (rz HO107.out) hb); replace HO110 := Aside0.mk (Kd.aM_ (rz HO110.out) hb); have HO114 := Aside0.mk (Kd.bi_ ho0 (ag_ (bz HB.out))); replace HB := Aside0.mk (ab_ (bz HB.out) hb); (try clear hb); (try clear ho0); obtain ⟨Ao18, co18, eo18⟩ := Kd.bo_ HO114.out; subst eo18) | (go_at_call 9; (with_reducible refine (aq_.calls k _ _ t105 _ _ t111 t115 t116 _ ?side1 ?side2 ?side3 ?side4 A10.out).mono ?_); (case side1 => exact cz (Kd.aj_ HO107.out).2.2); (case side2 => exact (Kd.aj_ HO107.out).2.1); (case side3 => exact cz (Kd.aj_ HO114.out).2.2); (case side4 => exact (Kd.aj_ HO114.out).2.1); rintro e w19 ⟨v117, rfl, ho0, hb⟩; replace HO104 := Aside0.mk (Kd.bW_ (sz HO104.out) (Kd.bh_ ho0) hb); replace HO114 := Aside0.mk (Kd.aM_ (rz HO114.out) hb); have HO118 := Aside0.mk (Kd.bi_ (Kd.bG_ (Kd.bG_ ho0 (Kd.R_lt (rz HO107.out))) (Kd.R_lt (rz HO110.out))) (ag_ (bz HB.out))); replace HO107 := Aside0.mk (Kd.aY_ (rz HO107.out) (Kd.bh_ ho0) hb); replace HO110 := Aside0.mk (Kd.aY_ (rz HO110.out) (Kd.bh_ ho0) hb); replace HB := Aside0.mk (ab_ (bz HB.out) hb); (try clear hb); (try clear ho0))))
  (try simp only [Act.put, lsa_, ls0_, ls1_])
  go_cut [59] (fun v59 wc => ∃ (kq : Nat) (x59_10 : Bool), v59 = .bool x59_10 ∧ Aside0 (ae_.j0 kq l1 t102 t105 x59_10 = some r) ∧ Aside0 (kq ≤ k) ∧ Aside0 (Kd.S k48 48 wc w.heap.size (fun k_ => some k_ ≠ ((.slice Ao14 t105.length co14) : Value).ownBlock) v103 t102) ∧ Aside0 (Kd.R k59 59 wc w.heap.size (fun _ => True) (.slice Ao14 t105.length co14) t105) ∧ Aside0 (Below w.heap.size w wc))
  case first =>
   have H := HC11.out
   clear HC11
   by_cases c20 : t112 = 0
   rotate_left
   ·rw [if_neg c20] at H
    have c20b0 : (t112 == 0) = false := beq_eq_false_iff_ne.mpr c20
    have c20b1 : (t112 != 0) = true := bne_iff_ne.mpr c20
    (first | rw [c20b0] | (simp only [i64_w, i32_w]; rw [c20b0]) | (simp only [c20b1, Bool.not_true, Bool.not_false]) | (simp only [c20b0, Bool.not_true, Bool.not_false]) | skip)
    have H' := Aside0.mk H
    clear H
    go_wp2
    repeat (go_quiet (fail); try go_wp2)
    go_meet
    case rel => exact ⟨_, (true), (by first | rfl | (simp; done) | (simp [*]; done)), H', ⟨by first | omega | exact Nat.le_refl _⟩, ⟨sz (Kd.bE_ HO104.out (fun _ hk => hk.1.1.2))⟩, ⟨rz (Kd.aT_ HO107.out (fun _ hk => trivial))⟩, ⟨bz HB.out⟩⟩
   rw [if_pos c20] at H
   have c20b0 : (t112 == 0) = true := beq_iff_eq.mpr c20
   have c20b1 : (t112 != 0) = false := bne_eq_false_iff_eq.mpr c20
   clear c20
   (first | rw [c20b0] | (simp only [i64_w, i32_w]; rw [c20b0]) | (simp only [c20b1, Bool.not_true, Bool.not_false]) | (simp only [c20b0, Bool.not_true, Bool.not_false]) | skip)
   by_cases c21 : t116 = 0
   rotate_left
   ·rw [if_neg c21] at H
    have c21b0 : (t116 == 0) = false := beq_eq_false_iff_ne.mpr c21
    have c21b1 : (t116 != 0) = true := bne_iff_ne.mpr c21
    have H' := Aside0.mk H
    clear H
    go_wp2
    repeat (go_quiet (fail); try go_wp2)
    go_meet
    case rel => exact ⟨_, (true), (by first | rfl | (simp; done) | (simp [*]; done)), H', ⟨by first | omega | exact Nat.le_refl _⟩, ⟨sz (Kd.bE_ HO104.out (fun _ hk => hk.1.1.2))⟩, ⟨rz (Kd.aT_ HO107.out (fun _ hk => trivial))⟩, ⟨bz HB.out⟩⟩
   rw [if_pos c21] at H
   have c21b0 : (t116 == 0) = true := beq_iff_eq.mpr c21
   have c21b1 : (t116 != 0) = false := bne_eq_false_iff_eq.mpr c21
   clear c21
   replace H := Option.bind_eq_some_iff.mp H
   obtain ⟨t119, A220, H⟩ := H
   (try dsimp only at H)
   have A22 := Aside0.mk A220
   clear A220
   have H' := Aside0.mk H
   clear H
   obtain ⟨Ao23, co23, eo23⟩ := Kd.bo_ HO118.out
   subst eo23
   go_wp2_with (first | (go_at_call 10; (with_reducible refine (aU_.calls k _ _ t115 _ _ t108 t119 _ ?side1 ?side2 ?side3 ?side4 A22.out).mono ?_); (case side1 => exact cz (Kd.aj_ HO118.out).2.2); (case side2 => exact (Kd.aj_ HO118.out).2.1); (case side3 => exact cz (Kd.aj_ HO110.out).2.2); (case side4 => exact (Kd.aj_ HO110.out).2.1); rintro e w' ⟨rfl, ⟨nd, rfl⟩⟩; (try first | exact ⟨rfl, _, World.drewN_drewN _ _ _⟩ | exact ⟨rfl, _, Eq.trans (World.drewN_drewN _ _ _) (congrArg (World.drewN _) (Nat.add_assoc _ _ _))⟩)))
   repeat (go_quiet (first | (go_at_call 10; (with_reducible refine (aU_.calls k _ _ t115 _ _ t108 t119 _ ?side1 ?side2 ?side3 ?side4 A22.out).mono ?_); (case side1 => exact cz (Kd.aj_ HO118.out).2.2); (case side2 => exact (Kd.aj_ HO118.out).2.1); (case side3 => exact cz (Kd.aj_ HO110.out).2.2); (case side4 => exact (Kd.aj_ HO110.out).2.1); rintro e w' ⟨rfl, ⟨nd, rfl⟩⟩; (try first | exact ⟨rfl, _, World.drewN_drewN _ _ _⟩ | exact ⟨rfl, _, Eq.trans (World.drewN_drewN _ _ _) (congrArg (World.drewN _) (Nat.add_assoc _ _ _))⟩))); try go_wp2_with (first | (go_at_call 10; (with_reducible refine (aU_.calls k _ _ t115 _ _ t108 t119 _ ?side1 ?side2 ?side3 ?side4 A22.out).mono ?_); (case side1 => exact cz (Kd.aj_ HO118.out).2.2); (case side2 => exact (Kd.aj_ HO118.out).2.1); (case side3 => exact cz (Kd.aj_ HO110.out).2.2); (case side4 => exact (Kd.aj_ HO110.out).2.1); rintro e w' ⟨rfl, ⟨nd, rfl⟩⟩; (try first | exact ⟨rfl, _, World.drewN_drewN _ _ _⟩ | exact ⟨rfl, _, Eq.trans (World.drewN_drewN _ _ _) (congrArg (World.drewN _) (Nat.add_assoc _ _ _))⟩))))
   go_meet
   case rel => exact ⟨_, (!t119), (by first | rfl | (simp; done) | (simp [*]; done)), H', ⟨by first | omega | exact Nat.le_refl _⟩, ⟨sz (Kd.bE_ HO104.out (fun _ hk => hk.1.1.2))⟩, ⟨rz (Kd.aT_ HO107.out (fun _ hk => trivial))⟩, ⟨bz HB.out⟩⟩
  case rest => as_aux_lemma =>
   clear HC11
   obtain ⟨kq, x59_10, rfl, HA, HJ10, HO_5, HO_6, HB⟩ := hcut
   cases kq with
   | zero => exact absurd HA.out (by simp [ae_.j0])
   | succ kj10 =>
    have H := HA.out
    clear HA
    simp only [ae_.j0] at H
    by_cases c24 : x59_10 = true
    rotate_left
    ·replace c24 := Bool.eq_false_iff.mpr c24
     subst c24
     have H1 : ((dv_.f l1 0 (wrap64 ((t102.length : Int) + 1))).bind fun t120 => ((aV_.f kj10 t102 t120 (⟨#[110, 101, 120, 116]⟩ : ByteArray) t105).bind fun bt121 => ((bt_.f kj10 bt121.1 (wrap64 ((t102.length : Int) + 1))).bind fun bt125 => ((ch_.f kj10 bt121.1 (wrap64 ((t102.length : Int) + 1))).bind fun bt129 => ((bx_.f kj10 bt121.1).bind fun bt133 => ((bS_.f kj10 bt121.1 (wrap64 ((t102.length : Int) + 1)) (wrap64 ((t102.length : Int) + 1))).bind fun bt137 => (if bt121.2 = 0 then (if (bt121.1.length : Int) = (wrap64 ((t102.length : Int) + 1)) then (if bt125.2 = 0 then (if (bt125.1.length : Int) = (wrap64 ((wrap64 ((t102.length : Int) + 1)) + 1)) then (if bt129.2 = 0 then (if bt133.2 = 0 then ((ba_.f kj10 bt133.1 (wrap64 ((t102.length : Int) + 1))).bind fun t139 => (if t139 = true then (if bt137.2 = 0 then (if bt137.1 = (wrap64 ((t102.length : Int) + 1)) then ((bU_.f kj10 bt125.1).bind fun t140 => (ae_.j1 kj10 t102 t120 bt121.1 (wrap64 ((t102.length : Int) + 1)) bt125.1 bt129.1 (!t140))) else (ae_.j1 kj10 t102 t120 bt121.1 (wrap64 ((t102.length : Int) + 1)) bt125.1 bt129.1 true)) else (ae_.j1 kj10 t102 t120 bt121.1 (wrap64 ((t102.length : Int) + 1)) bt125.1 bt129.1 true)) else (ae_.j1 kj10 t102 t120 bt121.1 (wrap64 ((t102.length : Int) + 1)) bt125.1 bt129.1 true))) else (ae_.j1 kj10 t102 t120 bt121.1 (wrap64 ((t102.length : Int) + 1)) bt125.1 bt129.1 true)) else (ae_.j1 kj10 t102 t120 bt121.1 (wrap64 ((t102.length : Int) + 1)) bt125.1 bt129.1 true)) else (ae_.j1 kj10 t102 t120 bt121.1 (wrap64 ((t102.length : Int) + 1)) bt125.1 bt129.1 true)) else (ae_.j1 kj10 t102 t120 bt121.1 (wrap64 ((t102.length : Int) + 1)) bt125.1 bt129.1 true)) else (ae_.j1 kj10 t102 t120 bt121.1 (wrap64 ((t102.length : Int) + 1)) bt125.1 bt129.1 true)) else (ae_.j1 kj10 t102 t120 bt121.1 (wrap64 ((t102.length : Int) + 1)) bt125.1 bt129.1 true)))))))) = some r := by rw [if_neg (show ¬ (false = true) by decide)] at H; exact H
     clear H
     have H := H1
     clear H1
     replace H := Option.bind_eq_some_iff.mp H
     obtain ⟨t120, A250, H⟩ := H
     (try dsimp only at H)
     have A25 := Aside0.mk A250
     clear A250
     replace H := Option.bind_eq_some_iff.mp H
     obtain ⟨⟨t121, t122⟩, A260, H⟩ := H
     (try dsimp only at H)
     have A26 := Aside0.mk A260
     clear A260
     replace H := Option.bind_eq_some_iff.mp H
     obtain ⟨⟨t125, t126⟩, A270, H⟩ := H
     (try dsimp only at H)
     have A27 := Aside0.mk A270
     clear A270
     replace H := Option.bind_eq_some_iff.mp H
     obtain ⟨⟨t129, t130⟩, A280, H⟩ := H
     (try dsimp only at H)
     have A28 := Aside0.mk A280
     clear A280
     replace H := Option.bind_eq_some_iff.mp H
     obtain ⟨⟨t133, t134⟩, A290, H⟩ := H
     (try dsimp only at H)
     have A29 := Aside0.mk A290
     clear A290
     replace H := Option.bind_eq_some_iff.mp H
     obtain ⟨⟨t137, t138⟩, A300, H⟩ := H
     (try dsimp only at H)
     have A30 := Aside0.mk A300
     clear A300
     have HC31 := Aside0.mk H
     clear H
     obtain ⟨Ao32, co32, eo32⟩ := Kd.do_ HO_5.out
     subst eo32
     go_upto_region 17 with (first | (go_at_call 11; (with_reducible refine (dv_.calls _ _ l1 0 (wrap64 ((t102.length : Int) + 1)) t120 _ ?side1 ?side2 A25.out).mono ?_); (case side1 => exact cz (Kd.bk_ HR1.out HB.out)); (case side2 => exact HC1.out); rintro e w' ⟨rfl, ⟨nd, rfl⟩⟩; (try first | exact ⟨rfl, _, World.drewN_drewN _ _ _⟩ | exact ⟨rfl, _, Eq.trans (World.drewN_drewN _ _ _) (congrArg (World.drewN _) (Nat.add_assoc _ _ _))⟩)) | (go_at_call 12; (with_reducible refine (aV_.calls kj10 _ _ t102 t120 (⟨#[110, 101, 120, 116]⟩ : ByteArray) _ _ t105 t121 t122 _ ?side1 ?side2 ?side3 ?side4 A26.out).mono ?_); (case side1 => exact cz (Kd.bp_ HO_5.out).2.2); (case side2 => exact (Kd.bp_ HO_5.out).2.1); (case side3 => exact cz (Kd.aj_ HO_6.out).2.2); (case side4 => exact (Kd.aj_ HO_6.out).2.1); rintro e w33 ⟨v123, rfl, ho0, hb⟩; have HO124 := Aside0.mk (Kd.du_ (Kd.S_new' (Kd.S_new' ho0 (Kd.S_lt (sz HO_5.out))) (Kd.R_lt (rz HO_6.out))) (ag_ (bz HB.out))); replace HO_5 := Aside0.mk (Kd.bW_ (sz HO_5.out) (Kd.S_base ho0) hb); replace HO_6 := Aside0.mk (Kd.aM_ (rz HO_6.out) hb); replace HB := Aside0.mk (ab_ (bz HB.out) hb); (try clear hb); (try clear ho0); obtain ⟨Ao34, co34, eo34⟩ := Kd.do_ HO124.out; subst eo34) | (go_at_call 13; (with_reducible refine (bt_.calls kj10 _ _ t121 (wrap64 ((t102.length : Int) + 1)) t125 t126 _ ?side1 ?side2 ?side3 A27.out).mono ?_); (case side1 => exact cz (Kd.bp_ HO124.out).2.2); (case side2 => exact (Kd.bp_ HO124.out).2.1); (case side3 => exact cM_ HTab_.out (bz HB.out)); rintro e w35 ⟨v127, rfl, ho0, hb⟩; have HO128 := Aside0.mk (Kd.du_ (Kd.S_new' (Kd.S_new' (Kd.S_new' ho0 (Kd.S_lt (sz HO_5.out))) (Kd.R_lt (rz HO_6.out))) (Kd.S_lt (sz HO124.out))) (ag_ (bz HB.out))); replace HO_5 := Aside0.mk (Kd.bW_ (sz HO_5.out) (Kd.S_base ho0) hb); replace HO_6 := Aside0.mk (Kd.aM_ (rz HO_6.out) hb); replace HO124 := Aside0.mk (Kd.bW_ (sz HO124.out) (Kd.S_base ho0) hb); replace HB := Aside0.mk (ab_ (bz HB.out) hb); (try clear hb); (try clear ho0)) | (go_at_call 14; (with_reducible refine (ch_.calls kj10 _ _ t121 (wrap64 ((t102.length : Int) + 1)) t129 t130 _ ?side1 ?side2 A28.out).mono ?_); (case side1 => exact cz (Kd.bp_ HO124.out).2.2); (case side2 => exact (Kd.bp_ HO124.out).2.1); rintro e w36 ⟨v131, rfl, ho0, hb⟩; replace HO_5 := Aside0.mk (Kd.bF_ (sz HO_5.out) hb); replace HO_6 := Aside0.mk (Kd.aM_ (rz HO_6.out) hb); replace HO124 := Aside0.mk (Kd.bF_ (sz HO124.out) hb); replace HO128 := Aside0.mk (Kd.bF_ (sz HO128.out) hb); have HO132 := Aside0.mk (Kd.bi_ ho0 (ag_ (bz HB.out))); replace HB := Aside0.mk (ab_ (bz HB.out) hb); (try clear hb); (try clear ho0)) | (go_at_call 15; (with_reducible refine (bx_.calls kj10 _ _ t121 t133 t134 _ ?side1 ?side2 A29.out).mono ?_); (case side1 => exact cz (Kd.bp_ HO124.out).2.2); (case side2 => exact (Kd.bp_ HO124.out).2.1); rintro e w37 ⟨v135, rfl, ho0, hb⟩; replace HO_5 := Aside0.mk (Kd.bF_ (sz HO_5.out) hb); replace HO_6 := Aside0.mk (Kd.aM_ (rz HO_6.out) hb); replace HO124 := Aside0.mk (Kd.bF_ (sz HO124.out) hb); replace HO128 := Aside0.mk (Kd.bF_ (sz HO128.out) hb); have HO136 := Aside0.mk (Kd.bi_ (Kd.bG_ ho0 (Kd.R_lt (rz HO132.out))) (ag_ (bz HB.out))); replace HO132 := Aside0.mk (Kd.aY_ (rz HO132.out) (Kd.bh_ ho0) hb); replace HB := Aside0.mk (ab_ (bz HB.out) hb); (try clear hb); (try clear ho0)) | (go_at_call 16; (with_reducible refine (bS_.calls kj10 _ _ t121 (wrap64 ((t102.length : Int) + 1)) (wrap64 ((t102.length : Int) + 1)) t137 t138 _ ?side1 ?side2 A30.out).mono ?_); (case side1 => exact cz (Kd.bp_ HO124.out).2.2); (case side2 => exact (Kd.bp_ HO124.out).2.1); rintro e w38 ⟨rfl, hb⟩; replace HO_5 := Aside0.mk (Kd.bF_ (sz HO_5.out) hb); replace HO_6 := Aside0.mk (Kd.aM_ (rz HO_6.out) hb); replace HO124 := Aside0.mk (Kd.bF_ (sz HO124.out) hb); replace HO128 := Aside0.mk (Kd.bF_ (sz HO128.out) hb); replace HO132 := Aside0.mk (Kd.aM_ (rz HO132.out) hb); replace HO136 := Aside0.mk (Kd.aM_ (rz HO136.out) hb); replace HB := Aside0.mk (ab_ (bz HB.out) hb); (try clear hb)))
     repeat (go_quiet (first | (go_at_call 11; (with_reducible refine (dv_.calls _ _ l1 0 (wrap64 ((t102.length : Int) + 1)) t120 _ ?side1 ?side2 A25.out).mono ?_); (case side1 => exact cz (Kd.bk_ HR1.out HB.out)); (case side2 => exact HC1.out); rintro e w' ⟨rfl, ⟨nd, rfl⟩⟩; (try first | exact ⟨rfl, _, World.drewN_drewN _ _ _⟩ | exact ⟨rfl, _, Eq.trans (World.drewN_drewN _ _ _) (congrArg (World.drewN _) (Nat.add_assoc _ _ _))⟩)) | (go_at_call 12; (with_reducible refine (aV_.calls kj10 _ _ t102 t120 (⟨#[110, 101, 120, 116]⟩ : ByteArray) _ _ t105 t121 t122 _ ?side1 ?side2 ?side3 ?side4 A26.out).mono ?_); (case side1 => exact cz (Kd.bp_ HO_5.out).2.2); (case side2 => exact (Kd.bp_ HO_5.out).2.1); (case side3 => exact cz (Kd.aj_ HO_6.out).2.2); (case side4 => exact (Kd.aj_ HO_6.out).2.1); rintro e w33 ⟨v123, rfl, ho0, hb⟩; have HO124 := Aside0.mk (Kd.du_ (Kd.S_new' (Kd.S_new' ho0 (Kd.S_lt (sz HO_5.out))) (Kd.R_lt (rz HO_6.out))) (ag_ (bz HB.out))); replace HO_5 := Aside0.mk (Kd.bW_ (sz HO_5.out) (Kd.S_base ho0) hb); replace HO_6 := Aside0.mk (Kd.aM_ (rz HO_6.out) hb); replace HB := Aside0.mk (ab_ (bz HB.out) hb); (try clear hb); (try clear ho0); obtain ⟨Ao34, co34, eo34⟩ := Kd.do_ HO124.out; subst eo34) | (go_at_call 13; (with_reducible refine (bt_.calls kj10 _ _ t121 (wrap64 ((t102.length : Int) + 1)) t125 t126 _ ?side1 ?side2 ?side3 A27.out).mono ?_); (case side1 => exact cz (Kd.bp_ HO124.out).2.2); (case side2 => exact (Kd.bp_ HO124.out).2.1); (case side3 => exact cM_ HTab_.out (bz HB.out)); rintro e w35 ⟨v127, rfl, ho0, hb⟩; have HO128 := Aside0.mk (Kd.du_ (Kd.S_new' (Kd.S_new' (Kd.S_new' ho0 (Kd.S_lt (sz HO_5.out))) (Kd.R_lt (rz HO_6.out))) (Kd.S_lt (sz HO124.out))) (ag_ (bz HB.out))); replace HO_5 := Aside0.mk (Kd.bW_ (sz HO_5.out) (Kd.S_base ho0) hb); replace HO_6 := Aside0.mk (Kd.aM_ (rz HO_6.out) hb); replace HO124 := Aside0.mk (Kd.bW_ (sz HO124.out) (Kd.S_base ho0) hb); replace HB := Aside0.mk (ab_ (bz HB.out) hb); (try clear hb); (try clear ho0)) | (go_at_call 14; (with_reducible refine (ch_.calls kj10 _ _ t121 (wrap64 ((t102.length : Int) + 1)) t129 t130 _ ?side1 ?side2 A28.out).mono ?_); (case side1 => exact cz (Kd.bp_ HO124.out).2.2); (case side2 => exact (Kd.bp_ HO124.out).2.1); rintro e w36 ⟨v131, rfl, ho0, hb⟩; replace HO_5 := Aside0.mk (Kd.bF_ (sz HO_5.out) hb); replace HO_6 := Aside0.mk (Kd.aM_ (rz HO_6.out) hb); replace HO124 := Aside0.mk (Kd.bF_ (sz HO124.out) hb); replace HO128 := Aside0.mk (Kd.bF_ (sz HO128.out) hb); have HO132 := Aside0.mk (Kd.bi_ ho0 (ag_ (bz HB.out))); replace HB := Aside0.mk (ab_ (bz HB.out) hb); (try clear hb); (try clear ho0)) | (go_at_call 15; (with_reducible refine (bx_.calls kj10 _ _ t121 t133 t134 _ ?side1 ?side2 A29.out).mono ?_); (case side1 => exact cz (Kd.bp_ HO124.out).2.2); (case side2 => exact (Kd.bp_ HO124.out).2.1); rintro e w37 ⟨v135, rfl, ho0, hb⟩; replace HO_5 := Aside0.mk (Kd.bF_ (sz HO_5.out) hb); replace HO_6 := Aside0.mk (Kd.aM_ (rz HO_6.out) hb); replace HO124 := Aside0.mk (Kd.bF_ (sz HO124.out) hb); replace HO128 := Aside0.mk (Kd.bF_ (sz HO128.out) hb); have HO136 := Aside0.mk (Kd.bi_ (Kd.bG_ ho0 (Kd.R_lt (rz HO132.out))) (ag_ (bz HB.out))); replace HO132 := Aside0.mk (Kd.aY_ (rz HO132.out) (Kd.bh_ ho0) hb); replace HB := Aside0.mk (ab_ (bz HB.out) hb); (try clear hb); (try clear ho0)) | (go_at_call 16; (with_reducible refine (bS_.calls kj10 _ _ t121 (wrap64 ((t102.length : Int) + 1)) (wrap64 ((t102.length : Int) + 1)) t137 t138 _ ?side1 ?side2 A30.out).mono ?_); (case side1 => exact cz (Kd.bp_ HO124.out).2.2); (case side2 => exact (Kd.bp_ HO124.out).2.1); rintro e w38 ⟨rfl, hb⟩; replace HO_5 := Aside0.mk (Kd.bF_ (sz HO_5.out) hb); replace HO_6 := Aside0.mk (Kd.aM_ (rz HO_6.out) hb); replace HO124 := Aside0.mk (Kd.bF_ (sz HO124.out) hb); replace HO128 := Aside0.mk (Kd.bF_ (sz HO128.out) hb); replace HO132 := Aside0.mk (Kd.aM_ (rz HO132.out) hb); replace HO136 := Aside0.mk (Kd.aM_ (rz HO136.out) hb); replace HB := Aside0.mk (ab_ (bz HB.out) hb); (try clear hb))); go_upto_region 17 with (first | (go_at_call 11; (with_reducible refine (dv_.calls _ _ l1 0 (wrap64 ((t102.length : Int) + 1)) t120 _ ?side1 ?side2 A25.out).mono ?_); (case side1 => exact cz (Kd.bk_ HR1.out HB.out)); (case side2 => exact HC1.out); rintro e w' ⟨rfl, ⟨nd, rfl⟩⟩; (try first | exact ⟨rfl, _, World.drewN_drewN _ _ _⟩ | exact ⟨rfl, _, Eq.trans (World.drewN_drewN _ _ _) (congrArg (World.drewN _) (Nat.add_assoc _ _ _))⟩)) | (go_at_call 12; (with_reducible refine (aV_.calls kj10 _ _ t102 t120 (⟨#[110, 101, 120, 116]⟩ : ByteArray) _ _ t105 t121 t122 _ ?side1 ?side2 ?side3 ?side4 A26.out).mono ?_); (case side1 => exact cz (Kd.bp_ HO_5.out).2.2); (case side2 => exact (Kd.bp_ HO_5.out).2.1); (case side3 => exact cz (Kd.aj_ HO_6.out).2.2); (case side4 => exact (Kd.aj_ HO_6.out).2.1); rintro e w33 ⟨v123, rfl, ho0, hb⟩; have HO124 := Aside0.mk (Kd.du_ (Kd.S_new' (Kd.S_new' ho0 (Kd.S_lt (sz HO_5.out))) (Kd.R_lt (rz HO_6.out))) (ag_ (bz HB.out))); replace HO_5 := Aside0.mk (Kd.bW_ (sz HO_5.out) (Kd.S_base ho0) hb); replace HO_6 := Aside0.mk (Kd.aM_ (rz HO_6.out) hb); replace HB := Aside0.mk (ab_ (bz HB.out) hb); (try clear hb); (try clear ho0); obtain ⟨Ao34, co34, eo34⟩ := Kd.do_ HO124.out; subst eo34) | (go_at_call 13; (with_reducible refine (bt_.calls kj10 _ _ t121 (wrap64 ((t102.length : Int) + 1)) t125 t126 _ ?side1 ?side2 ?side3 A27.out).mono ?_); (case side1 => exact cz (Kd.bp_ HO124.out).2.2); (case side2 => exact (Kd.bp_ HO124.out).2.1); (case side3 => exact cM_ HTab_.out (bz HB.out)); rintro e w35 ⟨v127, rfl, ho0, hb⟩; have HO128 := Aside0.mk (Kd.du_ (Kd.S_new' (Kd.S_new' (Kd.S_new' ho0 (Kd.S_lt (sz HO_5.out))) (Kd.R_lt (rz HO_6.out))) (Kd.S_lt (sz HO124.out))) (ag_ (bz HB.out))); replace HO_5 := Aside0.mk (Kd.bW_ (sz HO_5.out) (Kd.S_base ho0) hb); replace HO_6 := Aside0.mk (Kd.aM_ (rz HO_6.out) hb); replace HO124 := Aside0.mk (Kd.bW_ (sz HO124.out) (Kd.S_base ho0) hb); replace HB := Aside0.mk (ab_ (bz HB.out) hb); (try clear hb); (try clear ho0)) | (go_at_call 14; (with_reducible refine (ch_.calls kj10 _ _ t121 (wrap64 ((t102.length : Int) + 1)) t129 t130 _ ?side1 ?side2 A28.out).mono ?_); (case side1 => exact cz (Kd.bp_ HO124.out).2.2); (case side2 => exact (Kd.bp_ HO124.out).2.1); rintro e w36 ⟨v131, rfl, ho0, hb⟩; replace HO_5 := Aside0.mk (Kd.bF_ (sz HO_5.out) hb); replace HO_6 := Aside0.mk (Kd.aM_ (rz HO_6.out) hb); replace HO124 := Aside0.mk (Kd.bF_ (sz HO124.out) hb); replace HO128 := Aside0.mk (Kd.bF_ (sz HO128.out) hb); have HO132 := Aside0.mk (Kd.bi_ ho0 (ag_ (bz HB.out))); replace HB := Aside0.mk (ab_ (bz HB.out) hb); (try clear hb); (try clear ho0)) | (go_at_call 15; (with_reducible refine (bx_.calls kj10 _ _ t121 t133 t134 _ ?side1 ?side2 A29.out).mono ?_); (case side1 => exact cz (Kd.bp_ HO124.out).2.2); (case side2 => exact (Kd.bp_ HO124.out).2.1); rintro e w37 ⟨v135, rfl, ho0, hb⟩; replace HO_5 := Aside0.mk (Kd.bF_ (sz HO_5.out) hb); replace HO_6 := Aside0.mk (Kd.aM_ (rz HO_6.out) hb); replace HO124 := Aside0.mk (Kd.bF_ (sz HO124.out) hb); replace HO128 := Aside0.mk (Kd.bF_ (sz HO128.out) hb); have HO136 := Aside0.mk (Kd.bi_ (Kd.bG_ ho0 (Kd.R_lt (rz HO132.out))) (ag_ (bz HB.out))); replace HO132 := Aside0.mk (Kd.aY_ (rz HO132.out) (Kd.bh_ ho0) hb); replace HB := Aside0.mk (ab_ (bz HB.out) hb); (try clear hb); (try clear ho0)) | (go_at_call 16; (with_reducible refine (bS_.calls kj10 _ _ t121 (wrap64 ((t102.length : Int) + 1)) (wrap64 ((t102.length : Int) + 1)) t137 t138 _ ?side1 ?side2 A30.out).mono ?_); (case side1 => exact cz (Kd.bp_ HO124.out).2.2); (case side2 => exact (Kd.bp_ HO124.out).2.1); rintro e w38 ⟨rfl, hb⟩; replace HO_5 := Aside0.mk (Kd.bF_ (sz HO_5.out) hb); replace HO_6 := Aside0.mk (Kd.aM_ (rz HO_6.out) hb); replace HO124 := Aside0.mk (Kd.bF_ (sz HO124.out) hb); replace HO128 := Aside0.mk (Kd.bF_ (sz HO128.out) hb); replace HO132 := Aside0.mk (Kd.aM_ (rz HO132.out) hb); replace HO136 := Aside0.mk (Kd.aM_ (rz HO136.out) hb); replace HB := Aside0.mk (ab_ (bz HB.out) hb); (try clear hb))))
     (try simp only [Act.put, lsa_, ls0_, ls1_])
     go_cut [145] (fun v145 wc => ∃ (kq : Nat) (x145_30 : Bool), v145 = .bool x145_30 ∧ Aside0 (ae_.j1 kq t102 t120 t121 (wrap64 ((t102.length : Int) + 1)) t125 t129 x145_30 = some r) ∧ Aside0 (kq ≤ kj10) ∧ Aside0 (Kd.S k48 48 wc w.heap.size (fun k_ => some k_ ≠ ((.slice Ao34 t121.length co34) : Value).ownBlock ∧ some k_ ≠ (v127 : Value).ownBlock) (.slice Ao32 t102.length co32) t102) ∧ Aside0 (Kd.S k48 48 wc w.heap.size (fun k_ => some k_ ≠ ((.slice Ao32 t102.length co32) : Value).ownBlock ∧ some k_ ≠ (v127 : Value).ownBlock) (.slice Ao34 t121.length co34) t121) ∧ Aside0 (Kd.S k48 48 wc w.heap.size (fun k_ => some k_ ≠ ((.slice Ao32 t102.length co32) : Value).ownBlock ∧ some k_ ≠ ((.slice Ao34 t121.length co34) : Value).ownBlock) v127 t125) ∧ Aside0 (Kd.R (Kd.int .i64) 2 wc w.heap.size (fun _ => True) v131 t129) ∧ Aside0 (Below w.heap.size w wc))
     case first =>
      have H := HC31.out
      clear HC31
      by_cases c39 : t122 = 0
      rotate_left
      ·rw [if_neg c39] at H
       have c39b0 : (t122 == 0) = false := beq_eq_false_iff_ne.mpr c39
       have c39b1 : (t122 != 0) = true := bne_iff_ne.mpr c39
       (first | rw [c39b0] | (simp only [i64_w, i32_w]; rw [c39b0]) | (simp only [c39b1, Bool.not_true, Bool.not_false]) | (simp only [c39b0, Bool.not_true, Bool.not_false]) | skip)
       have H' := Aside0.mk H
       clear H
       go_wp2
       repeat (go_quiet (fail); try go_wp2)
       go_meet
       case rel => exact ⟨_, (true), (by first | rfl | (simp; done) | (simp [*]; done)), H', ⟨by have := HJ10.out; first | omega | exact Nat.le_refl _⟩, ⟨sz (Kd.bE_ HO_5.out (fun _ hk => ⟨hk.1.2, hk.2⟩))⟩, ⟨sz (Kd.bE_ HO124.out (fun _ hk => ⟨hk.1.1.2, hk.2⟩))⟩, ⟨sz (Kd.bE_ HO128.out (fun _ hk => ⟨hk.1.1.2, hk.2⟩))⟩, ⟨rz (Kd.aT_ HO132.out (fun _ hk => trivial))⟩, ⟨bz HB.out⟩⟩
      rw [if_pos c39] at H
      have c39b0 : (t122 == 0) = true := beq_iff_eq.mpr c39
      have c39b1 : (t122 != 0) = false := bne_eq_false_iff_eq.mpr c39
      clear c39
      (first | rw [c39b0] | (simp only [i64_w, i32_w]; rw [c39b0]) | (simp only [c39b1, Bool.not_true, Bool.not_false]) | (simp only [c39b0, Bool.not_true, Bool.not_false]) | skip)
      by_cases c40 : (t121.length : Int) = (wrap64 ((t102.length : Int) + 1))
      rotate_left
      ·rw [if_neg c40] at H
       have c40b0 : ((t121.length : Int) == (wrap64 ((t102.length : Int) + 1))) = false := beq_eq_false_iff_ne.mpr c40
       have c40b1 : ((t121.length : Int) != (wrap64 ((t102.length : Int) + 1))) = true := bne_iff_ne.mpr c40
       have H' := Aside0.mk H
       clear H
       go_wp2
       repeat (go_quiet (fail); try go_wp2)
       go_meet
       case rel => exact ⟨_, (true), (by first | rfl | (simp; done) | (simp [*]; done)), H', ⟨by have := HJ10.out; first | omega | exact Nat.le_refl _⟩, ⟨sz (Kd.bE_ HO_5.out (fun _ hk => ⟨hk.1.2, hk.2⟩))⟩, ⟨sz (Kd.bE_ HO124.out (fun _ hk => ⟨hk.1.1.2, hk.2⟩))⟩, ⟨sz (Kd.bE_ HO128.out (fun _ hk => ⟨hk.1.1.2, hk.2⟩))⟩, ⟨rz (Kd.aT_ HO132.out (fun _ hk => trivial))⟩, ⟨bz HB.out⟩⟩
      rw [if_pos c40] at H
      have c40b0 : ((t121.length : Int) == (wrap64 ((t102.length : Int) + 1))) = true := beq_iff_eq.mpr c40
      have c40b1 : ((t121.length : Int) != (wrap64 ((t102.length : Int) + 1))) = false := bne_eq_false_iff_eq.mpr c40
      clear c40
      by_cases c41 : t126 = 0
      rotate_left
      ·rw [if_neg c41] at H
       have c41b0 : (t126 == 0) = false := beq_eq_false_iff_ne.mpr c41
       have c41b1 : (t126 != 0) = true := bne_iff_ne.mpr c41
       have H' := Aside0.mk H
       clear H
       go_wp2
       repeat (go_quiet (fail); try go_wp2)
       go_meet
       case rel => exact ⟨_, (true), (by first | rfl | (simp; done) | (simp [*]; done)), H', ⟨by have := HJ10.out; first | omega | exact Nat.le_refl _⟩, ⟨sz (Kd.bE_ HO_5.out (fun _ hk => ⟨hk.1.2, hk.2⟩))⟩, ⟨sz (Kd.bE_ HO124.out (fun _ hk => ⟨hk.1.1.2, hk.2⟩))⟩, ⟨sz (Kd.bE_ HO128.out (fun _ hk => ⟨hk.1.1.2, hk.2⟩))⟩, ⟨rz (Kd.aT_ HO132.out (fun _ hk => trivial))⟩, ⟨bz HB.out⟩⟩
      rw [if_pos c41] at H
      have c41b0 : (t126 == 0) = true := beq_iff_eq.mpr c41
      have c41b1 : (t126 != 0) = false := bne_eq_false_iff_eq.mpr c41
      clear c41
      by_cases c42 : (t125.length : Int) = (wrap64 ((wrap64 ((t102.length : Int) + 1)) + 1))
      rotate_left
      ·rw [if_neg c42] at H
       have c42b0 : ((t125.length : Int) == (wrap64 ((wrap64 ((t102.length : Int) + 1)) + 1))) = false := beq_eq_false_iff_ne.mpr c42
       have c42b1 : ((t125.length : Int) != (wrap64 ((wrap64 ((t102.length : Int) + 1)) + 1))) = true := bne_iff_ne.mpr c42
       have H' := Aside0.mk H
       clear H
       obtain ⟨Ao61, co61, eo61⟩ := Kd.do_ HO128.out
       subst eo61
       go_wp2
       repeat (go_quiet (fail); try go_wp2)
       go_meet
       case rel => exact ⟨_, (true), (by first | rfl | (simp; done) | (simp [*]; done)), H', ⟨by have := HJ10.out; first | omega | exact Nat.le_refl _⟩, ⟨sz (Kd.bE_ HO_5.out (fun _ hk => ⟨hk.1.2, hk.2⟩))⟩, ⟨sz (Kd.bE_ HO124.out (fun _ hk => ⟨hk.1.1.2, hk.2⟩))⟩, ⟨sz (Kd.bE_ HO128.out (fun _ hk => ⟨hk.1.1.2, hk.2⟩))⟩, ⟨rz (Kd.aT_ HO132.out (fun _ hk => trivial))⟩, ⟨bz HB.out⟩⟩
      rw [if_pos c42] at H
      have c42b0 : ((t125.length : Int) == (wrap64 ((wrap64 ((t102.length : Int) + 1)) + 1))) = true := beq_iff_eq.mpr c42
      have c42b1 : ((t125.length : Int) != (wrap64 ((wrap64 ((t102.length : Int) + 1)) + 1))) = false := bne_eq_false_iff_eq.mpr c42
      clear c42
      by_cases c43 : t130 = 0
      rotate_left
      ·rw [if_neg c43] at H
       have c43b0 : (t130 == 0) = false := beq_eq_false_iff_ne.mpr c43
       have c43b1 : (t130 != 0) = true := bne_iff_ne.mpr c43
       have H' := Aside0.mk H
       clear H
       obtain ⟨Ao60, co60, eo60⟩ := Kd.do_ HO128.out
       subst eo60
       go_wp2
       repeat (go_quiet (fail); try go_wp2)
       go_meet
       case rel => exact ⟨_, (true), (by first | rfl | (simp; done) | (simp [*]; done)), H', ⟨by have := HJ10.out; first | omega | exact Nat.le_refl _⟩, ⟨sz (Kd.bE_ HO_5.out (fun _ hk => ⟨hk.1.2, hk.2⟩))⟩, ⟨sz (Kd.bE_ HO124.out (fun _ hk => ⟨hk.1.1.2, hk.2⟩))⟩, ⟨sz (Kd.bE_ HO128.out (fun _ hk => ⟨hk.1.1.2, hk.2⟩))⟩, ⟨rz (Kd.aT_ HO132.out (fun _ hk => trivial))⟩, ⟨bz HB.out⟩⟩
      rw [if_pos c43] at H
      have c43b0 : (t130 == 0) = true := beq_iff_eq.mpr c43
      have c43b1 : (t130 != 0) = false := bne_eq_false_iff_eq.mpr c43
      clear c43
      by_cases c44 : t134 = 0
      rotate_left
      ·rw [if_neg c44] at H
       have c44b0 : (t134 == 0) = false := beq_eq_false_iff_ne.mpr c44
       have c44b1 : (t134 != 0) = true := bne_iff_ne.mpr c44
       have H' := Aside0.mk H
       clear H
       obtain ⟨Ao59, co59, eo59⟩ := Kd.do_ HO128.out
       subst eo59
       go_wp2
       repeat (go_quiet (fail); try go_wp2)
       go_meet
       case rel => exact ⟨_, (true), (by first | rfl | (simp; done) | (simp [*]; done)), H', ⟨by have := HJ10.out; first | omega | exact Nat.le_refl _⟩, ⟨sz (Kd.bE_ HO_5.out (fun _ hk => ⟨hk.1.2, hk.2⟩))⟩, ⟨sz (Kd.bE_ HO124.out (fun _ hk => ⟨hk.1.1.2, hk.2⟩))⟩, ⟨sz (Kd.bE_ HO128.out (fun _ hk => ⟨hk.1.1.2, hk.2⟩))⟩, ⟨rz (Kd.aT_ HO132.out (fun _ hk => trivial))⟩, ⟨bz HB.out⟩⟩
      rw [if_pos c44] at H
      have c44b0 : (t134 == 0) = true := beq_iff_eq.mpr c44
      have c44b1 : (t134 != 0) = false := bne_eq_false_iff_eq.mpr c44
      clear c44
      replace H := Option.bind_eq_some_iff.mp H
      obtain ⟨t139, A450, H⟩ := H
      (try dsimp only at H)
      have A45 := Aside0.mk A450
      clear A450
      by_cases c46 : t139 = true
      rotate_left
      ·replace c46 := Bool.eq_false_iff.mpr c46
       subst c46
       have H1 : (ae_.j1 kj10 t102 t120 t121 (wrap64 ((t102.length : Int) + 1)) t125 t129 true) = some r := by rw [if_neg (show ¬ (false = true) by decide)] at H; exact H
       clear H
       have H := H1
       clear H1
       have H' := Aside0.mk H
       clear H
       obtain ⟨Ao57, co57, eo57⟩ := Kd.do_ HO128.out
       subst eo57
       obtain ⟨Ao58, co58, eo58⟩ := Kd.bo_ HO136.out
       subst eo58
       go_wp2_with (first | (go_at_call 17; (with_reducible refine (ba_.calls kj10 _ _ t133 (wrap64 ((t102.length : Int) + 1)) false _ ?side1 ?side2 A45.out).mono ?_); (case side1 => exact cz (Kd.aj_ HO136.out).2.2); (case side2 => exact (Kd.aj_ HO136.out).2.1); rintro e w' ⟨rfl, ⟨nd, rfl⟩⟩; (try first | exact ⟨rfl, _, World.drewN_drewN _ _ _⟩ | exact ⟨rfl, _, Eq.trans (World.drewN_drewN _ _ _) (congrArg (World.drewN _) (Nat.add_assoc _ _ _))⟩)))
       repeat (go_quiet (first | (go_at_call 17; (with_reducible refine (ba_.calls kj10 _ _ t133 (wrap64 ((t102.length : Int) + 1)) false _ ?side1 ?side2 A45.out).mono ?_); (case side1 => exact cz (Kd.aj_ HO136.out).2.2); (case side2 => exact (Kd.aj_ HO136.out).2.1); rintro e w' ⟨rfl, ⟨nd, rfl⟩⟩; (try first | exact ⟨rfl, _, World.drewN_drewN _ _ _⟩ | exact ⟨rfl, _, Eq.trans (World.drewN_drewN _ _ _) (congrArg (World.drewN _) (Nat.add_assoc _ _ _))⟩))); try go_wp2_with (first | (go_at_call 17; (with_reducible refine (ba_.calls kj10 _ _ t133 (wrap64 ((t102.length : Int) + 1)) false _ ?side1 ?side2 A45.out).mono ?_); (case side1 => exact cz (Kd.aj_ HO136.out).2.2); (case side2 => exact (Kd.aj_ HO136.out).2.1); rintro e w' ⟨rfl, ⟨nd, rfl⟩⟩; (try first | exact ⟨rfl, _, World.drewN_drewN _ _ _⟩ | exact ⟨rfl, _, Eq.trans (World.drewN_drewN _ _ _) (congrArg (World.drewN _) (Nat.add_assoc _ _ _))⟩))))
       go_meet
       case rel => exact ⟨_, (true), (by first | rfl | (simp; done) | (simp [*]; done)), H', ⟨by have := HJ10.out; first | omega | exact Nat.le_refl _⟩, ⟨sz (Kd.bE_ HO_5.out (fun _ hk => ⟨hk.1.2, hk.2⟩))⟩, ⟨sz (Kd.bE_ HO124.out (fun _ hk => ⟨hk.1.1.2, hk.2⟩))⟩, ⟨sz (Kd.bE_ HO128.out (fun _ hk => ⟨hk.1.1.2, hk.2⟩))⟩, ⟨rz (Kd.aT_ HO132.out (fun _ hk => trivial))⟩, ⟨bz HB.out⟩⟩
      subst c46
      have H1 : (if t138 = 0 then (if t137 = (wrap64 ((t102.length : Int) + 1)) then ((bU_.f kj10 t125).bind fun t140 => (ae_.j1 kj10 t102 t120 t121 (wrap64 ((t102.length : Int) + 1)) t125 t129 (!t140))) else (ae_.j1 kj10 t102 t120 t121 (wrap64 ((t102.length : Int) + 1)) t125 t129 true)) else (ae_.j1 kj10 t102 t120 t121 (wrap64 ((t102.length : Int) + 1)) t125 t129 true)) = some r := by rw [if_pos rfl] at H; exact H
      clear H
      have H := H1
      clear H1
      by_cases c47 : t138 = 0
      rotate_left
      ·rw [if_neg c47] at H
       have c47b0 : (t138 == 0) = false := beq_eq_false_iff_ne.mpr c47
       have c47b1 : (t138 != 0) = true := bne_iff_ne.mpr c47
       have H' := Aside0.mk H
       clear H
       obtain ⟨Ao55, co55, eo55⟩ := Kd.do_ HO128.out
       subst eo55
       obtain ⟨Ao56, co56, eo56⟩ := Kd.bo_ HO136.out
       subst eo56
       go_wp2_with (first | (go_at_call 17; (with_reducible refine (ba_.calls kj10 _ _ t133 (wrap64 ((t102.length : Int) + 1)) true _ ?side1 ?side2 A45.out).mono ?_); (case side1 => exact cz (Kd.aj_ HO136.out).2.2); (case side2 => exact (Kd.aj_ HO136.out).2.1); rintro e w' ⟨rfl, ⟨nd, rfl⟩⟩; (try first | exact ⟨rfl, _, World.drewN_drewN _ _ _⟩ | exact ⟨rfl, _, Eq.trans (World.drewN_drewN _ _ _) (congrArg (World.drewN _) (Nat.add_assoc _ _ _))⟩)))
       repeat (go_quiet (first | (go_at_call 17; (with_reducible refine (ba_.calls kj10 _ _ t133 (wrap64 ((t102.length : Int) + 1)) true _ ?side1 ?side2 A45.out).mono ?_); (case side1 => exact cz (Kd.aj_ HO136.out).2.2); (case side2 => exact (Kd.aj_ HO136.out).2.1); rintro e w' ⟨rfl, ⟨nd, rfl⟩⟩; (try first | exact ⟨rfl, _, World.drewN_drewN _ _ _⟩ | exact ⟨rfl, _, Eq.trans (World.drewN_drewN _ _ _) (congrArg (World.drewN _) (Nat.add_assoc _ _ _))⟩))); try go_wp2_with (first | (go_at_call 17; (with_reducible refine (ba_.calls kj10 _ _ t133 (wrap64 ((t102.length : Int) + 1)) true _ ?side1 ?side2 A45.out).mono ?_); (case side1 => exact cz (Kd.aj_ HO136.out).2.2); (case side2 => exact (Kd.aj_ HO136.out).2.1); rintro e w' ⟨rfl, ⟨nd, rfl⟩⟩; (try first | exact ⟨rfl, _, World.drewN_drewN _ _ _⟩ | exact ⟨rfl, _, Eq.trans (World.drewN_drewN _ _ _) (congrArg (World.drewN _) (Nat.add_assoc _ _ _))⟩))))
       go_meet
       case rel => exact ⟨_, (true), (by first | rfl | (simp; done) | (simp [*]; done)), H', ⟨by have := HJ10.out; first | omega | exact Nat.le_refl _⟩, ⟨sz (Kd.bE_ HO_5.out (fun _ hk => ⟨hk.1.2, hk.2⟩))⟩, ⟨sz (Kd.bE_ HO124.out (fun _ hk => ⟨hk.1.1.2, hk.2⟩))⟩, ⟨sz (Kd.bE_ HO128.out (fun _ hk => ⟨hk.1.1.2, hk.2⟩))⟩, ⟨rz (Kd.aT_ HO132.out (fun _ hk => trivial))⟩, ⟨bz HB.out⟩⟩
      rw [if_pos c47] at H
      have c47b0 : (t138 == 0) = true := beq_iff_eq.mpr c47
      have c47b1 : (t138 != 0) = false := bne_eq_false_iff_eq.mpr c47
      clear c47
      by_cases c48 : t137 = (wrap64 ((t102.length : Int) + 1))
      rotate_left
      ·rw [if_neg c48] at H
       have c48b0 : (t137 == (wrap64 ((t102.length : Int) + 1))) = false := beq_eq_false_iff_ne.mpr c48
       have c48b1 : (t137 != (wrap64 ((t102.length : Int) + 1))) = true := bne_iff_ne.mpr c48
       have H' := Aside0.mk H
       clear H
       obtain ⟨Ao53, co53, eo53⟩ := Kd.do_ HO128.out
       subst eo53
       obtain ⟨Ao54, co54, eo54⟩ := Kd.bo_ HO136.out
       subst eo54
       go_wp2_with (first | (go_at_call 17; (with_reducible refine (ba_.calls kj10 _ _ t133 (wrap64 ((t102.length : Int) + 1)) true _ ?side1 ?side2 A45.out).mono ?_); (case side1 => exact cz (Kd.aj_ HO136.out).2.2); (case side2 => exact (Kd.aj_ HO136.out).2.1); rintro e w' ⟨rfl, ⟨nd, rfl⟩⟩; (try first | exact ⟨rfl, _, World.drewN_drewN _ _ _⟩ | exact ⟨rfl, _, Eq.trans (World.drewN_drewN _ _ _) (congrArg (World.drewN _) (Nat.add_assoc _ _ _))⟩)))
       repeat (go_quiet (first | (go_at_call 17; (with_reducible refine (ba_.calls kj10 _ _ t133 (wrap64 ((t102.length : Int) + 1)) true _ ?side1 ?side2 A45.out).mono ?_); (case side1 => exact cz (Kd.aj_ HO136.out).2.2); (case side2 => exact (Kd.aj_ HO136.out).2.1); rintro e w' ⟨rfl, ⟨nd, rfl⟩⟩; (try first | exact ⟨rfl, _, World.drewN_drewN _ _ _⟩ | exact ⟨rfl, _, Eq.trans (World.drewN_drewN _ _ _) (congrArg (World.drewN _) (Nat.add_assoc _ _ _))⟩))); try go_wp2_with (first | (go_at_call 17; (with_reducible refine (ba_.calls kj10 _ _ t133 (wrap64 ((t102.length : Int) + 1)) true _ ?side1 ?side2 A45.out).mono ?_); (case side1 => exact cz (Kd.aj_ HO136.out).2.2); (case side2 => exact (Kd.aj_ HO136.out).2.1); rintro e w' ⟨rfl, ⟨nd, rfl⟩⟩; (try first | exact ⟨rfl, _, World.drewN_drewN _ _ _⟩ | exact ⟨rfl, _, Eq.trans (World.drewN_drewN _ _ _) (congrArg (World.drewN _) (Nat.add_assoc _ _ _))⟩))))
       go_meet
       case rel => exact ⟨_, (true), (by first | rfl | (simp; done) | (simp [*]; done)), H', ⟨by have := HJ10.out; first | omega | exact Nat.le_refl _⟩, ⟨sz (Kd.bE_ HO_5.out (fun _ hk => ⟨hk.1.2, hk.2⟩))⟩, ⟨sz (Kd.bE_ HO124.out (fun _ hk => ⟨hk.1.1.2, hk.2⟩))⟩, ⟨sz (Kd.bE_ HO128.out (fun _ hk => ⟨hk.1.1.2, hk.2⟩))⟩, ⟨rz (Kd.aT_ HO132.out (fun _ hk => trivial))⟩, ⟨bz HB.out⟩⟩
      rw [if_pos c48] at H
      have c48b0 : (t137 == (wrap64 ((t102.length : Int) + 1))) = true := beq_iff_eq.mpr c48
      have c48b1 : (t137 != (wrap64 ((t102.length : Int) + 1))) = false := bne_eq_false_iff_eq.mpr c48
      clear c48
      replace H := Option.bind_eq_some_iff.mp H
      obtain ⟨t140, A490, H⟩ := H
      (try dsimp only at H)
      have A49 := Aside0.mk A490
      clear A490
      have H' := Aside0.mk H
      clear H
      obtain ⟨Ao50, co50, eo50⟩ := Kd.do_ HO128.out
      subst eo50
      obtain ⟨Ao51, co51, eo51⟩ := Kd.bo_ HO136.out
      subst eo51
      go_wp2_with (first | (go_at_call 17; (with_reducible refine (ba_.calls kj10 _ _ t133 (wrap64 ((t102.length : Int) + 1)) true _ ?side1 ?side2 A45.out).mono ?_); (case side1 => exact cz (Kd.aj_ HO136.out).2.2); (case side2 => exact (Kd.aj_ HO136.out).2.1); rintro e w' ⟨rfl, ⟨nd, rfl⟩⟩; (try first | exact ⟨rfl, _, World.drewN_drewN _ _ _⟩ | exact ⟨rfl, _, Eq.trans (World.drewN_drewN _ _ _) (congrArg (World.drewN _) (Nat.add_assoc _ _ _))⟩)) | (go_at_call 18; (with_reducible refine (bU_.calls kj10 _ _ t125 t140 _ ?side1 ?side2 A49.out).mono ?_); (case side1 => exact cz (Kd.bp_ HO128.out).2.2); (case side2 => exact (Kd.bp_ HO128.out).2.1); rintro e w52 ⟨rfl, hb⟩; replace HO_5 := Aside0.mk (Kd.bF_ (sz HO_5.out) hb); replace HO_6 := Aside0.mk (Kd.aM_ (rz HO_6.out) hb); replace HO124 := Aside0.mk (Kd.bF_ (sz HO124.out) hb); replace HO128 := Aside0.mk (Kd.bF_ (sz HO128.out) hb); replace HO132 := Aside0.mk (Kd.aM_ (rz HO132.out) hb); replace HO136 := Aside0.mk (Kd.aM_ (rz HO136.out) hb); replace HB := Aside0.mk (ab_ (bz HB.out) hb); (try clear hb)))
      repeat (go_quiet (first | (go_at_call 17; (with_reducible refine (ba_.calls kj10 _ _ t133 (wrap64 ((t102.length : Int) + 1)) true _ ?side1 ?side2 A45.out).mono ?_); (case side1 => exact cz (Kd.aj_ HO136.out).2.2); (case side2 => exact (Kd.aj_ HO136.out).2.1); rintro e w' ⟨rfl, ⟨nd, rfl⟩⟩; (try first | exact ⟨rfl, _, World.drewN_drewN _ _ _⟩ | exact ⟨rfl, _, Eq.trans (World.drewN_drewN _ _ _) (congrArg (World.drewN _) (Nat.add_assoc _ _ _))⟩)) | (go_at_call 18; (with_reducible refine (bU_.calls kj10 _ _ t125 t140 _ ?side1 ?side2 A49.out).mono ?_); (case side1 => exact cz (Kd.bp_ HO128.out).2.2); (case side2 => exact (Kd.bp_ HO128.out).2.1); rintro e w52 ⟨rfl, hb⟩; replace HO_5 := Aside0.mk (Kd.bF_ (sz HO_5.out) hb); replace HO_6 := Aside0.mk (Kd.aM_ (rz HO_6.out) hb); replace HO124 := Aside0.mk (Kd.bF_ (sz HO124.out) hb); replace HO128 := Aside0.mk (Kd.bF_ (sz HO128.out) hb); replace HO132 := Aside0.mk (Kd.aM_ (rz HO132.out) hb); replace HO136 := Aside0.mk (Kd.aM_ (rz HO136.out) hb); replace HB := Aside0.mk (ab_ (bz HB.out) hb); (try clear hb))); try go_wp2_with (first | (go_at_call 17; (with_reducible refine (ba_.calls kj10 _ _ t133 (wrap64 ((t102.length : Int) + 1)) true _ ?side1 ?side2 A45.out).mono ?_); (case side1 => exact cz (Kd.aj_ HO136.out).2.2); (case side2 => exact (Kd.aj_ HO136.out).2.1); rintro e w' ⟨rfl, ⟨nd, rfl⟩⟩; (try first | exact ⟨rfl, _, World.drewN_drewN _ _ _⟩ | exact ⟨rfl, _, Eq.trans (World.drewN_drewN _ _ _) (congrArg (World.drewN _) (Nat.add_assoc _ _ _))⟩)) | (go_at_call 18; (with_reducible refine (bU_.calls kj10 _ _ t125 t140 _ ?side1 ?side2 A49.out).mono ?_); (case side1 => exact cz (Kd.bp_ HO128.out).2.2); (case side2 => exact (Kd.bp_ HO128.out).2.1); rintro e w52 ⟨rfl, hb⟩; replace HO_5 := Aside0.mk (Kd.bF_ (sz HO_5.out) hb); replace HO_6 := Aside0.mk (Kd.aM_ (rz HO_6.out) hb); replace HO124 := Aside0.mk (Kd.bF_ (sz HO124.out) hb); replace HO128 := Aside0.mk (Kd.bF_ (sz HO128.out) hb); replace HO132 := Aside0.mk (Kd.aM_ (rz HO132.out) hb); replace HO136 := Aside0.mk (Kd.aM_ (rz HO136.out) hb); replace HB := Aside0.mk (ab_ (bz HB.out) hb); (try clear hb))))
      go_meet
      case rel => exact ⟨_, (!t140), (by first | rfl | (simp; done) | (simp [*]; done)), H', ⟨by have := HJ10.out; first | omega | exact Nat.le_refl _⟩, ⟨sz (Kd.bE_ HO_5.out (fun _ hk => ⟨hk.1.2, hk.2⟩))⟩, ⟨sz (Kd.bE_ HO124.out (fun _ hk => ⟨hk.1.1.2, hk.2⟩))⟩, ⟨sz (Kd.bE_ HO128.out (fun _ hk => ⟨hk.1.1.2, hk.2⟩))⟩, ⟨rz (Kd.aT_ HO132.out (fun _ hk => trivial))⟩, ⟨bz HB.out⟩⟩
     case rest => as_aux_lemma =>
      clear HC31
      obtain ⟨kq, x145_30, rfl, HA, HJ30, HO_5, HO_13, HO_16, HO_18, HB⟩ := hcut
      cases kq with
      | zero => exact absurd HA.out (by simp [ae_.j1])
      | succ kj30 =>
       have H := HA.out
       clear HA
       simp only [ae_.j1] at H
       by_cases c62 : x145_30 = true
       rotate_left
       ·replace c62 := Bool.eq_false_iff.mpr c62
        subst c62
        have H1 : (if t120 > 0 then (if 0 ≤ (wrap64 (t120 - 1)) then (if (wrap64 (t120 - 1)) < (t102.length : Int) then (if 0 ≤ (wrap64 ((t102.length : Int) + 1)) then (if (wrap64 ((t102.length : Int) + 1)) < (t125.length : Int) then ((aU_.f kj30 ((ar_ t125 (wrap64 ((t102.length : Int) + 1))).f3) ((ar_ t102 (wrap64 (t120 - 1))).f3)).bind fun t146 => (if t146 = true then ((ba_.f kj30 t129 t120).bind fun t147 => (ae_.j2 kj30 t121 (wrap64 ((t102.length : Int) + 1)) t129 ((decide (t120 > 0)) != t147))) else (ae_.j2 kj30 t121 (wrap64 ((t102.length : Int) + 1)) t129 true))) else (none)) else (none)) else (none)) else (none)) else (if 0 ≤ (wrap64 ((t102.length : Int) + 1)) then (if (wrap64 ((t102.length : Int) + 1)) < (t125.length : Int) then ((aU_.f kj30 ((ar_ t125 (wrap64 ((t102.length : Int) + 1))).f3) (([] : List (S59)))).bind fun t155 => (if t155 = true then ((ba_.f kj30 t129 t120).bind fun t156 => (ae_.j4 kj30 t121 (wrap64 ((t102.length : Int) + 1)) t129 ((decide (t120 > 0)) != t156))) else (ae_.j4 kj30 t121 (wrap64 ((t102.length : Int) + 1)) t129 true))) else (none)) else (none))) = some r := by rw [if_neg (show ¬ (false = true) by decide)] at H; exact H
        clear H
        have H := H1
        clear H1
        obtain ⟨y141, hy141⟩ : ∃ y_ : List (S59), y_ = (([] : List (S59))) := ⟨_, rfl⟩
        replace H : (if t120 > 0 then (if 0 ≤ (wrap64 (t120 - 1)) then (if (wrap64 (t120 - 1)) < (t102.length : Int) then (if 0 ≤ (wrap64 ((t102.length : Int) + 1)) then (if (wrap64 ((t102.length : Int) + 1)) < (t125.length : Int) then ((aU_.f kj30 ((ar_ t125 (wrap64 ((t102.length : Int) + 1))).f3) ((ar_ t102 (wrap64 (t120 - 1))).f3)).bind fun t146 => (if t146 = true then ((ba_.f kj30 t129 t120).bind fun t147 => (ae_.j2 kj30 t121 (wrap64 ((t102.length : Int) + 1)) t129 ((decide (t120 > 0)) != t147))) else (ae_.j2 kj30 t121 (wrap64 ((t102.length : Int) + 1)) t129 true))) else (none)) else (none)) else (none)) else (none)) else (if 0 ≤ (wrap64 ((t102.length : Int) + 1)) then (if (wrap64 ((t102.length : Int) + 1)) < (t125.length : Int) then ((aU_.f kj30 ((ar_ t125 (wrap64 ((t102.length : Int) + 1))).f3) y141).bind fun t155 => (if t155 = true then ((ba_.f kj30 t129 t120).bind fun t156 => (ae_.j4 kj30 t121 (wrap64 ((t102.length : Int) + 1)) t129 ((decide (t120 > 0)) != t156))) else (ae_.j4 kj30 t121 (wrap64 ((t102.length : Int) + 1)) t129 true))) else (none)) else (none))) = some r := by first | (rw [hy141]; with_reducible exact H) | (have H2_ := (Option.bind_some _ _).symm.trans H; rw [hy141]; with_reducible exact H2_) | (have H2_ := (Option.bind_some _ _).symm.trans H; with_reducible exact H2_) | with_reducible exact H | (rw [hy141]; exact H) | exact H
        have Ny141 := Aside0.mk hy141
        clear hy141
        have HC63 := Aside0.mk H
        clear H
        go_upto_if 148 with (first | ((with_reducible refine aL_ (N := 146) rfl ?_); (try (refine dh_ (by rfl) ?_; dsimp only)); refine Kd.R_lit k59 _ 59 ?hg (N := 146) ?hd (xs := ([] : List (S59))) (inner := []) (ok := fun _ => True) (okp := fun _ => True) ?hr ?hp (fun _ hk => hk) trivial (Below.refl _ _) (Nat.le_refl _) (by simp) ?_; (case hd => rfl); (case hg => rfl); (case hr => (go_simp; try rfl)); (case hp => exact (Reps.none _ _)); intro v142 w64 ho65 hb hg_ hnew_; clear hg_ hnew_; (first | rw [← Ny141.out] at ho65 | (simp only [Int.reduceToNat] at ho65; rw [← Ny141.out] at ho65)); replace HO_5 := Aside0.mk (Kd.bW_ (sz HO_5.out) (Kd.bh_ ho65) hb); replace HO_13 := Aside0.mk (Kd.bW_ (sz HO_13.out) (Kd.bh_ ho65) hb); replace HO_16 := Aside0.mk (Kd.bW_ (sz HO_16.out) (Kd.bh_ ho65) hb); replace HO_18 := Aside0.mk (Kd.aM_ (rz HO_18.out) hb); have HO143 := Aside0.mk (Kd.bi_ ho65 (ag_ (bz HB.out))); replace HB := Aside0.mk (ab_ (bz HB.out) hb); clear hb ho65))
        repeat (go_quiet (first | ((with_reducible refine aL_ (N := 146) rfl ?_); (try (refine dh_ (by rfl) ?_; dsimp only)); refine Kd.R_lit k59 _ 59 ?hg (N := 146) ?hd (xs := ([] : List (S59))) (inner := []) (ok := fun _ => True) (okp := fun _ => True) ?hr ?hp (fun _ hk => hk) trivial (Below.refl _ _) (Nat.le_refl _) (by simp) ?_; (case hd => rfl); (case hg => rfl); (case hr => (go_simp; try rfl)); (case hp => exact (Reps.none _ _)); intro v142 w64 ho65 hb hg_ hnew_; clear hg_ hnew_; (first | rw [← Ny141.out] at ho65 | (simp only [Int.reduceToNat] at ho65; rw [← Ny141.out] at ho65)); replace HO_5 := Aside0.mk (Kd.bW_ (sz HO_5.out) (Kd.bh_ ho65) hb); replace HO_13 := Aside0.mk (Kd.bW_ (sz HO_13.out) (Kd.bh_ ho65) hb); replace HO_16 := Aside0.mk (Kd.bW_ (sz HO_16.out) (Kd.bh_ ho65) hb); replace HO_18 := Aside0.mk (Kd.aM_ (rz HO_18.out) hb); have HO143 := Aside0.mk (Kd.bi_ ho65 (ag_ (bz HB.out))); replace HB := Aside0.mk (ab_ (bz HB.out) hb); clear hb ho65)); go_upto_if 148 with (first | ((with_reducible refine aL_ (N := 146) rfl ?_); (try (refine dh_ (by rfl) ?_; dsimp only)); refine Kd.R_lit k59 _ 59 ?hg (N := 146) ?hd (xs := ([] : List (S59))) (inner := []) (ok := fun _ => True) (okp := fun _ => True) ?hr ?hp (fun _ hk => hk) trivial (Below.refl _ _) (Nat.le_refl _) (by simp) ?_; (case hd => rfl); (case hg => rfl); (case hr => (go_simp; try rfl)); (case hp => exact (Reps.none _ _)); intro v142 w64 ho65 hb hg_ hnew_; clear hg_ hnew_; (first | rw [← Ny141.out] at ho65 | (simp only [Int.reduceToNat] at ho65; rw [← Ny141.out] at ho65)); replace HO_5 := Aside0.mk (Kd.bW_ (sz HO_5.out) (Kd.bh_ ho65) hb); replace HO_13 := Aside0.mk (Kd.bW_ (sz HO_13.out) (Kd.bh_ ho65) hb); replace HO_16 := Aside0.mk (Kd.bW_ (sz HO_16.out) (Kd.bh_ ho65) hb); replace HO_18 := Aside0.mk (Kd.aM_ (rz HO_18.out) hb); have HO143 := Aside0.mk (Kd.bi_ ho65 (ag_ (bz HB.out))); replace HB := Aside0.mk (ab_ (bz HB.out) hb); clear hb ho65)))
        (try simp only [Act.put, lsa_, ls0_, ls1_])
        have H := HC63.out
        clear HC63
        by_cases c66 : t120 > 0
        rotate_left
        ·rw [if_neg c66] at H
         have c66b0 : decide (0 < t120) = false := decide_eq_false c66
         clear c66
         (first | rw [c66b0] | (simp only [i64_w, i32_w]; rw [c66b0]) | (simp only [c66b1, Bool.not_true, Bool.not_false]) | (simp only [c66b0, Bool.not_true, Bool.not_false]) | skip)
         have HC101 := Aside0.mk H
         clear H
         go_upto_region 22 with (fail)
         repeat (go_quiet (fail); go_upto_region 22 with (fail))
         go_cut [170] (fun v170 wc => ∃ (kq : Nat) (x170_100 : Bool), v170 = .bool x170_100 ∧ Aside0 (ae_.j4 kq t121 (wrap64 ((t102.length : Int) + 1)) t129 x170_100 = some r) ∧ Aside0 (kq ≤ kj30) ∧ Aside0 (Kd.S k48 48 wc w.heap.size (fun _ => True) (.slice Ao34 t121.length co34) t121) ∧ Aside0 (Kd.R (Kd.int .i64) 2 wc w.heap.size (fun _ => True) v131 t129) ∧ Aside0 (Below w.heap.size w wc))
         case first =>
          have H := HC101.out
          clear HC101
          obtain ⟨ji102, hji102⟩ : ∃ j_ : Int, (wrap64 ((t102.length : Int) + 1)) = j_ := ⟨_, rfl⟩
          replace H : (if 0 ≤ (ji102) then (if (ji102) < (t125.length : Int) then ((aU_.f kj30 ((ar_ t125 (ji102)).f3) y141).bind fun t155 => (if t155 = true then ((ba_.f kj30 t129 t120).bind fun t156 => (ae_.j4 kj30 t121 (ji102) t129 ((decide (t120 > 0)) != t156))) else (ae_.j4 kj30 t121 (ji102) t129 true))) else (none)) else (none)) = some r := by first | (rw [hji102] at H; exact H) | (simp only [hji102] at H ⊢; exact H)
          have hji102w : (IntKind.i64.wrap ((t102.length : Int) + 1)) = ji102 := (i64_w _).trans hji102
          by_cases c103 : 0 ≤ (ji102)
          rotate_left
          ·rw [if_neg c103] at H
           exact absurd H (by simp)
          rw [if_pos c103] at H
          have c103b0 : decide (0 ≤ (ji102)) = true := decide_eq_true c103
          clear c103
          (first | rw [c103b0] | (simp only [i64_w, i32_w]; rw [c103b0]) | (simp only [c103b1, Bool.not_true, Bool.not_false]) | (simp only [c103b0, Bool.not_true, Bool.not_false]) | skip)
          by_cases c104 : (ji102) < (t125.length : Int)
          rotate_left
          ·rw [if_neg c104] at H
           exact absurd H (by simp)
          rw [if_pos c104] at H
          have c104b0 : decide ((ji102) < (t125.length : Int)) = true := decide_eq_true c104
          clear c104
          replace H := Option.bind_eq_some_iff.mp H
          obtain ⟨t155, A1050, H⟩ := H
          (try dsimp only at H)
          have A105 := Aside0.mk A1050
          clear A1050
          by_cases c106 : t155 = true
          rotate_left
          ·replace c106 := Bool.eq_false_iff.mpr c106
           subst c106
           have H1 : (ae_.j4 kj30 t121 (ji102) t129 true) = some r := by rw [if_neg (show ¬ (false = true) by decide)] at H; exact H
           clear H
           have H := H1
           clear H1
           have H' := Aside0.mk H
           clear H
           obtain ⟨Ao111, co111, eo111⟩ := Kd.do_ HO_16.out
           subst eo111
           have p154 : 0 ≤ ((ji102) : Int) := of_decide_eq_true (by assumption)
           have q154 : (ji102) < (t125.length : Int) := of_decide_eq_true (by assumption)
           obtain ⟨ad154, A154_3, c154_3, e154, hx154_0, hx154_1, hx154_2, hx154_3, hl154_3, hi154_3⟩ := da_ (Kd.bp_ HO_16.out).2.2 (ji102) p154 q154
           cases e154
           obtain ⟨ce154, hce154, hMe154, hcc154⟩ := Kd.S_get HO_16.out z48 (ji102) p154 (by first | exact q154 | exact of_decide_eq_true (by assumption) | (have e_ := (Kd.bp_ HO_16.out).1; omega))
           obtain ⟨ve154_3, rfl, ge154_3⟩ := dC_ hMe154
           have hv154_3 := hcc154 3 _ rfl
           rw [cd_ _ _ 3 (by omega)] at hv154_3
           replace hv154_3 := Option.some.inj (hv154_3.symm.trans hx154_3)
           rw [hv154_3] at ge154_3
           have HL154_3 := Aside0.mk (show Kd.R k59 59 _ _ _ _ ((ar_ t125 (ji102)).f3) from ge154_3)
           clear hv154_3 ge154_3
           clear hcc154 hce154
           have HR154_3 := Aside0.mk hi154_3
           have HC154_3 := Aside0.mk hl154_3
           clear hi154_3 hl154_3
           replace p154 := eq_true p154
           replace q154 := eq_true q154
           obtain ⟨Ao112, co112, eo112⟩ := Kd.bo_ HO143.out
           subst eo112
           go_wp2_with (first | (go_at_call 10; (with_reducible refine (aU_.calls kj30 _ _ ((ar_ t125 (ji102)).f3) _ _ y141 false _ ?side1 ?side2 ?side3 ?side4 A105.out).mono ?_); (case side1 => repeat (first | exact (by repeat (first | (with_reducible exact HR154_3.out) | (with_reducible first | refine Kd.bn_ ?_ _ | refine Kd.bm_ ?_ _ | refine Kd.bH_ ?_) | exact HR154_3.out)) | (with_reducible first | refine Kd.bn_ ?_ _ | refine Kd.bm_ ?_ _ | refine Kd.bH_ ?_))); (case side2 => exact HC154_3.out); (case side3 => exact cz (Kd.aj_ HO143.out).2.2); (case side4 => exact (Kd.aj_ HO143.out).2.1); rintro e w' ⟨rfl, ⟨nd, rfl⟩⟩; (try first | exact ⟨rfl, _, World.drewN_drewN _ _ _⟩ | exact ⟨rfl, _, Eq.trans (World.drewN_drewN _ _ _) (congrArg (World.drewN _) (Nat.add_assoc _ _ _))⟩)))
           repeat (go_quiet (first | (go_at_call 10; (with_reducible refine (aU_.calls kj30 _ _ ((ar_ t125 (ji102)).f3) _ _ y141 false _ ?side1 ?side2 ?side3 ?side4 A105.out).mono ?_); (case side1 => repeat (first | exact (by repeat (first | (with_reducible exact HR154_3.out) | (with_reducible first | refine Kd.bn_ ?_ _ | refine Kd.bm_ ?_ _ | refine Kd.bH_ ?_) | exact HR154_3.out)) | (with_reducible first | refine Kd.bn_ ?_ _ | refine Kd.bm_ ?_ _ | refine Kd.bH_ ?_))); (case side2 => exact HC154_3.out); (case side3 => exact cz (Kd.aj_ HO143.out).2.2); (case side4 => exact (Kd.aj_ HO143.out).2.1); rintro e w' ⟨rfl, ⟨nd, rfl⟩⟩; (try first | exact ⟨rfl, _, World.drewN_drewN _ _ _⟩ | exact ⟨rfl, _, Eq.trans (World.drewN_drewN _ _ _) (congrArg (World.drewN _) (Nat.add_assoc _ _ _))⟩))); try go_wp2_with (first | (go_at_call 10; (with_reducible refine (aU_.calls kj30 _ _ ((ar_ t125 (ji102)).f3) _ _ y141 false _ ?side1 ?side2 ?side3 ?side4 A105.out).mono ?_); (case side1 => repeat (first | exact (by repeat (first | (with_reducible exact HR154_3.out) | (with_reducible first | refine Kd.bn_ ?_ _ | refine Kd.bm_ ?_ _ | refine Kd.bH_ ?_) | exact HR154_3.out)) | (with_reducible first | refine Kd.bn_ ?_ _ | refine Kd.bm_ ?_ _ | refine Kd.bH_ ?_))); (case side2 => exact HC154_3.out); (case side3 => exact cz (Kd.aj_ HO143.out).2.2); (case side4 => exact (Kd.aj_ HO143.out).2.1); rintro e w' ⟨rfl, ⟨nd, rfl⟩⟩; (try first | exact ⟨rfl, _, World.drewN_drewN _ _ _⟩ | exact ⟨rfl, _, Eq.trans (World.drewN_drewN _ _ _) (congrArg (World.drewN _) (Nat.add_assoc _ _ _))⟩))))
           (try simp only [← hji102]); go_meet
           case rel => (try simp only [hji102]); exact ⟨_, (true), (by first | rfl | (simp; done) | (simp [*]; done)), H', ⟨by have := HJ10.out; have := HJ30.out; first | omega | exact Nat.le_refl _⟩, ⟨sz (Kd.bE_ HO_13.out (fun _ hk => trivial))⟩, ⟨rz HO_18.out⟩, ⟨bz HB.out⟩⟩
          subst c106
          have H1 : ((ba_.f kj30 t129 t120).bind fun t156 => (ae_.j4 kj30 t121 (ji102) t129 ((decide (t120 > 0)) != t156))) = some r := by rw [if_pos rfl] at H; exact H
          clear H
          have H := H1
          clear H1
          replace H := Option.bind_eq_some_iff.mp H
          obtain ⟨t156, A1070, H⟩ := H
          (try dsimp only at H)
          have A107 := Aside0.mk A1070
          clear A1070
          have H' := Aside0.mk H
          clear H
          obtain ⟨Ao108, co108, eo108⟩ := Kd.do_ HO_16.out
          subst eo108
          have p154 : 0 ≤ ((ji102) : Int) := of_decide_eq_true (by assumption)
          have q154 : (ji102) < (t125.length : Int) := of_decide_eq_true (by assumption)
          obtain ⟨ad154, A154_3, c154_3, e154, hx154_0, hx154_1, hx154_2, hx154_3, hl154_3, hi154_3⟩ := da_ (Kd.bp_ HO_16.out).2.2 (ji102) p154 q154
          cases e154
          obtain ⟨ce154, hce154, hMe154, hcc154⟩ := Kd.S_get HO_16.out z48 (ji102) p154 (by first | exact q154 | exact of_decide_eq_true (by assumption) | (have e_ := (Kd.bp_ HO_16.out).1; omega))
          obtain ⟨ve154_3, rfl, ge154_3⟩ := dC_ hMe154
          have hv154_3 := hcc154 3 _ rfl
          rw [cd_ _ _ 3 (by omega)] at hv154_3
          replace hv154_3 := Option.some.inj (hv154_3.symm.trans hx154_3)
          rw [hv154_3] at ge154_3
          have HL154_3 := Aside0.mk (show Kd.R k59 59 _ _ _ _ ((ar_ t125 (ji102)).f3) from ge154_3)
          clear hv154_3 ge154_3
          clear hcc154 hce154
          have HR154_3 := Aside0.mk hi154_3
          have HC154_3 := Aside0.mk hl154_3
          clear hi154_3 hl154_3
          replace p154 := eq_true p154
          replace q154 := eq_true q154
          obtain ⟨Ao109, co109, eo109⟩ := Kd.bo_ HO143.out
          subst eo109
          obtain ⟨Ao110, co110, eo110⟩ := Kd.bo_ HO_18.out
          subst eo110
          go_wp2_with (first | (go_at_call 10; (with_reducible refine (aU_.calls kj30 _ _ ((ar_ t125 (ji102)).f3) _ _ y141 true _ ?side1 ?side2 ?side3 ?side4 A105.out).mono ?_); (case side1 => repeat (first | exact (by repeat (first | (with_reducible exact HR154_3.out) | (with_reducible first | refine Kd.bn_ ?_ _ | refine Kd.bm_ ?_ _ | refine Kd.bH_ ?_) | exact HR154_3.out)) | (with_reducible first | refine Kd.bn_ ?_ _ | refine Kd.bm_ ?_ _ | refine Kd.bH_ ?_))); (case side2 => exact HC154_3.out); (case side3 => exact cz (Kd.aj_ HO143.out).2.2); (case side4 => exact (Kd.aj_ HO143.out).2.1); rintro e w' ⟨rfl, ⟨nd, rfl⟩⟩; (try first | exact ⟨rfl, _, World.drewN_drewN _ _ _⟩ | exact ⟨rfl, _, Eq.trans (World.drewN_drewN _ _ _) (congrArg (World.drewN _) (Nat.add_assoc _ _ _))⟩)) | (go_at_call 17; (with_reducible refine (ba_.calls kj30 _ _ t129 t120 t156 _ ?side1 ?side2 A107.out).mono ?_); (case side1 => exact cz (Kd.aj_ HO_18.out).2.2); (case side2 => exact (Kd.aj_ HO_18.out).2.1); rintro e w' ⟨rfl, ⟨nd, rfl⟩⟩; (try first | exact ⟨rfl, _, World.drewN_drewN _ _ _⟩ | exact ⟨rfl, _, Eq.trans (World.drewN_drewN _ _ _) (congrArg (World.drewN _) (Nat.add_assoc _ _ _))⟩)))
          repeat (go_quiet (first | (go_at_call 10; (with_reducible refine (aU_.calls kj30 _ _ ((ar_ t125 (ji102)).f3) _ _ y141 true _ ?side1 ?side2 ?side3 ?side4 A105.out).mono ?_); (case side1 => repeat (first | exact (by repeat (first | (with_reducible exact HR154_3.out) | (with_reducible first | refine Kd.bn_ ?_ _ | refine Kd.bm_ ?_ _ | refine Kd.bH_ ?_) | exact HR154_3.out)) | (with_reducible first | refine Kd.bn_ ?_ _ | refine Kd.bm_ ?_ _ | refine Kd.bH_ ?_))); (case side2 => exact HC154_3.out); (case side3 => exact cz (Kd.aj_ HO143.out).2.2); (case side4 => exact (Kd.aj_ HO143.out).2.1); rintro e w' ⟨rfl, ⟨nd, rfl⟩⟩; (try first | exact ⟨rfl, _, World.drewN_drewN _ _ _⟩ | exact ⟨rfl, _, Eq.trans (World.drewN_drewN _ _ _) (congrArg (World.drewN _) (Nat.add_assoc _ _ _))⟩)) | (go_at_call 17; (with_reducible refine (ba_.calls kj30 _ _ t129 t120 t156 _ ?side1 ?side2 A107.out).mono ?_); (case side1 => exact cz (Kd.aj_ HO_18.out).2.2); (case side2 => exact (Kd.aj_ HO_18.out).2.1); rintro e w' ⟨rfl, ⟨nd, rfl⟩⟩; (try first | exact ⟨rfl, _, World.drewN_drewN _ _ _⟩ | exact ⟨rfl, _, Eq.trans (World.drewN_drewN _ _ _) (congrArg (World.drewN _) (Nat.add_assoc _ _ _))⟩))); try go_wp2_with (first | (go_at_call 10; (with_reducible refine (aU_.calls kj30 _ _ ((ar_ t125 (ji102)).f3) _ _ y141 true _ ?side1 ?side2 ?side3 ?side4 A105.out).mono ?_); (case side1 => repeat (first | exact (by repeat (first | (with_reducible exact HR154_3.out) | (with_reducible first | refine Kd.bn_ ?_ _ | refine Kd.bm_ ?_ _ | refine Kd.bH_ ?_) | exact HR154_3.out)) | (with_reducible first | refine Kd.bn_ ?_ _ | refine Kd.bm_ ?_ _ | refine Kd.bH_ ?_))); (case side2 => exact HC154_3.out); (case side3 => exact cz (Kd.aj_ HO143.out).2.2); (case side4 => exact (Kd.aj_ HO143.out).2.1); rintro e w' ⟨rfl, ⟨nd, rfl⟩⟩; (try first | exact ⟨rfl, _, World.drewN_drewN _ _ _⟩ | exact ⟨rfl, _, Eq.trans (World.drewN_drewN _ _ _) (congrArg (World.drewN _) (Nat.add_assoc _ _ _))⟩)) | (go_at_call 17; (with_reducible refine (ba_.calls kj30 _ _ t129 t120 t156 _ ?side1 ?side2 A107.out).mono ?_); (case side1 => exact cz (Kd.aj_ HO_18.out).2.2); (case side2 => exact (Kd.aj_ HO_18.out).2.1); rintro e w' ⟨rfl, ⟨nd, rfl⟩⟩; (try first | exact ⟨rfl, _, World.drewN_drewN _ _ _⟩ | exact ⟨rfl, _, Eq.trans (World.drewN_drewN _ _ _) (congrArg (World.drewN _) (Nat.add_assoc _ _ _))⟩))))
          (try simp only [← hji102]); go_meet
          case rel => (try simp only [hji102]); exact ⟨_, (((decide (t120 > 0)) != t156)), (by first | rfl | (simp; done) | (simp [*]; done)), H', ⟨by have := HJ10.out; have := HJ30.out; first | omega | exact Nat.le_refl _⟩, ⟨sz (Kd.bE_ HO_13.out (fun _ hk => trivial))⟩, ⟨rz HO_18.out⟩, ⟨bz HB.out⟩⟩
         case rest => as_aux_lemma =>
          clear HC101
          obtain ⟨kq, x170_100, rfl, HA, HJ100, HO_13, HO_18, HB⟩ := hcut
          cases kq with
          | zero => exact absurd HA.out (by simp [ae_.j4])
          | succ kj100 =>
           have H := HA.out
           clear HA
           simp only [ae_.j4] at H
           by_cases c113 : x170_100 = true
           rotate_left
           ·replace c113 := Bool.eq_false_iff.mpr c113
            subst c113
            have H1 : (ae_.l0 kj100 t121 (wrap64 ((t102.length : Int) + 1)) t129 0) = some r := by rw [if_neg (show ¬ (false = true) by decide)] at H; exact H
            clear H
            have H := H1
            clear H1
            have H' := Aside0.mk H
            clear H
            go_wp2
            repeat (go_quiet (fail); try go_wp2)
            (try simp only [Act.put, lsa_, ls0_, ls1_])
            go_loopg [25] kj100 (fun kq v25 w' => ∃ (x25_4 : Int), v25 = .int .i64 x25_4 ∧ Aside0 (ae_.l0 kq t121 (wrap64 ((t102.length : Int) + 1)) t129 x25_4 = some r) ∧ Aside0 (kq ≤ kj100) ∧ Aside0 (Kd.S k48 48 w' w.heap.size (fun _ => True) (.slice Ao34 t121.length co34) t121) ∧ Aside0 (Kd.R (Kd.int .i64) 2 w' w.heap.size (fun _ => True) v131 t129) ∧ Aside0 (Below w.heap.size w w'))
            case atStart => exact ⟨(0), (by first | rfl | (simp; done) | (simp [*]; done)), H', ⟨Nat.le_refl _⟩, ⟨sz HO_13.out⟩, ⟨rz HO_18.out⟩, ⟨bz HB.out⟩⟩
            case round =>
             clear H'
             obtain ⟨x25_4, rfl, HA, HK4, HO_13, HO_18, HB⟩ := hrel
             cases gk with
             | zero => exact absurd HA.out (by simp [ae_.l0])
             | succ k4 =>
              have H := HA.out
              clear HA
              simp only [ae_.l0] at H
              by_cases c114 : x25_4 < (t129.length : Int)
              rotate_left
              ·rw [if_neg c114] at H
               have c114b0 : decide (x25_4 < (t129.length : Int)) = false := decide_eq_false c114
               clear c114
               obtain ⟨ji128, hji128⟩ : ∃ j_ : Int, (wrap64 ((wrap64 ((t102.length : Int) + 1)) - 1)) = j_ := ⟨_, rfl⟩
               replace H : (if 0 ≤ (ji128) then (if (ji128) < (t121.length : Int) then ((am_.f k4 ((ar_ t121 (ji128)).f0) ((ar_ t121 (ji128)).f1) ((ar_ t121 (ji128)).f2) ((ar_ t121 (ji128)).f3)).bind fun t153 => (some (t153.toList != ([] : List UInt8)))) else (none)) else (none)) = some r := by first | (rw [hji128] at H; exact H) | (simp only [hji128] at H ⊢; exact H)
               have hji128w : (IntKind.i64.wrap ((wrap64 ((t102.length : Int) + 1)) - 1)) = ji128 := (i64_w _).trans hji128
               by_cases c129 : 0 ≤ (ji128)
               rotate_left
               ·rw [if_neg c129] at H
                exact absurd H (by simp)
               rw [if_pos c129] at H
               have c129b0 : decide (0 ≤ (ji128)) = true := decide_eq_true c129
               clear c129
               by_cases c130 : (ji128) < (t121.length : Int)
               rotate_left
               ·rw [if_neg c130] at H
                exact absurd H (by simp)
               rw [if_pos c130] at H
               have c130b0 : decide ((ji128) < (t121.length : Int)) = true := decide_eq_true c130
               clear c130
               replace H := Option.bind_eq_some_iff.mp H
               obtain ⟨t153, A1310, H⟩ := H
               (try dsimp only at H)
               have A131 := Aside0.mk A1310
               clear A1310
               obtain rfl := Option.some.inj H
               obtain ⟨Ao132, co132, eo132⟩ := Kd.bo_ HO_18.out
               subst eo132
               have p152 : 0 ≤ ((ji128) : Int) := of_decide_eq_true (by assumption)
               have q152 : (ji128) < (t121.length : Int) := of_decide_eq_true (by assumption)
               obtain ⟨ad152, A152_3, c152_3, e152, hx152_0, hx152_1, hx152_2, hx152_3, hl152_3, hi152_3⟩ := da_ (Kd.bp_ HO_13.out).2.2 (ji128) p152 q152
               cases e152
               obtain ⟨ce152, hce152, hMe152, hcc152⟩ := Kd.S_get HO_13.out z48 (ji128) p152 (by first | exact q152 | exact of_decide_eq_true (by assumption) | (have e_ := (Kd.bp_ HO_13.out).1; omega))
               obtain ⟨ve152_3, rfl, ge152_3⟩ := dC_ hMe152
               have hv152_3 := hcc152 3 _ rfl
               rw [cd_ _ _ 3 (by omega)] at hv152_3
               replace hv152_3 := Option.some.inj (hv152_3.symm.trans hx152_3)
               rw [hv152_3] at ge152_3
               have HL152_3 := Aside0.mk (show Kd.R k59 59 _ _ _ _ ((ar_ t121 (ji128)).f3) from ge152_3)
               clear hv152_3 ge152_3
               clear hcc152 hce152
               have HR152_3 := Aside0.mk hi152_3
               have HC152_3 := Aside0.mk hl152_3
               clear hi152_3 hl152_3
               replace p152 := eq_true p152
               replace q152 := eq_true q152
               go_wp2_with (first | (go_at_call 19; (with_reducible refine (am_.calls k4 ((ar_ t121 (ji128)).f0) ((ar_ t121 (ji128)).f1) ((ar_ t121 (ji128)).f2) _ _ ((ar_ t121 (ji128)).f3) t153 _ ?side1 ?side2 ?side3 A131.out).mono ?_); (case side1 => repeat (first | exact (by repeat (first | (with_reducible exact HR152_3.out) | (with_reducible first | refine Kd.bn_ ?_ _ | refine Kd.bm_ ?_ _ | refine Kd.bH_ ?_) | exact HR152_3.out)) | (with_reducible first | refine Kd.bn_ ?_ _ | refine Kd.bm_ ?_ _ | refine Kd.bH_ ?_))); (case side2 => exact HC152_3.out); (case side3 => exact cM_ HTab_.out (bz HB.out)); rintro e w133 ⟨rfl, hb⟩; replace HO_13 := Aside0.mk (Kd.bF_ (sz HO_13.out) hb); replace HO_18 := Aside0.mk (Kd.aM_ (rz HO_18.out) hb); replace HL152_3 := Aside0.mk (Kd.aM_ (rz HL152_3.out) hb); replace HR152_3 := Aside0.mk (Kd.bk_ (by repeat (first | (with_reducible exact HR152_3.out) | (with_reducible first | refine Kd.bn_ ?_ _ | refine Kd.bm_ ?_ _ | refine Kd.bH_ ?_) | exact HR152_3.out)) hb); replace HB := Aside0.mk (ab_ (bz HB.out) hb); (try clear hb)))
               repeat (go_quiet (first | (go_at_call 19; (with_reducible refine (am_.calls k4 ((ar_ t121 (ji128)).f0) ((ar_ t121 (ji128)).f1) ((ar_ t121 (ji128)).f2) _ _ ((ar_ t121 (ji128)).f3) t153 _ ?side1 ?side2 ?side3 A131.out).mono ?_); (case side1 => repeat (first | exact (by repeat (first | (with_reducible exact HR152_3.out) | (with_reducible first | refine Kd.bn_ ?_ _ | refine Kd.bm_ ?_ _ | refine Kd.bH_ ?_) | exact HR152_3.out)) | (with_reducible first | refine Kd.bn_ ?_ _ | refine Kd.bm_ ?_ _ | refine Kd.bH_ ?_))); (case side2 => exact HC152_3.out); (case side3 => exact cM_ HTab_.out (bz HB.out)); rintro e w133 ⟨rfl, hb⟩; replace HO_13 := Aside0.mk (Kd.bF_ (sz HO_13.out) hb); replace HO_18 := Aside0.mk (Kd.aM_ (rz HO_18.out) hb); replace HL152_3 := Aside0.mk (Kd.aM_ (rz HL152_3.out) hb); replace HR152_3 := Aside0.mk (Kd.bk_ (by repeat (first | (with_reducible exact HR152_3.out) | (with_reducible first | refine Kd.bn_ ?_ _ | refine Kd.bm_ ?_ _ | refine Kd.bH_ ?_) | exact HR152_3.out)) hb); replace HB := Aside0.mk (ab_ (bz HB.out) hb); (try clear hb))); try go_wp2_with (first | (go_at_call 19; (with_reducible refine (am_.calls k4 ((ar_ t121 (ji128)).f0) ((ar_ t121 (ji128)).f1) ((ar_ t121 (ji128)).f2) _ _ ((ar_ t121 (ji128)).f3) t153 _ ?side1 ?side2 ?side3 A131.out).mono ?_); (case side1 => repeat (first | exact (by repeat (first | (with_reducible exact HR152_3.out) | (with_reducible first | refine Kd.bn_ ?_ _ | refine Kd.bm_ ?_ _ | refine Kd.bH_ ?_) | exact HR152_3.out)) | (with_reducible first | refine Kd.bn_ ?_ _ | refine Kd.bm_ ?_ _ | refine Kd.bH_ ?_))); (case side2 => exact HC152_3.out); (case side3 => exact cM_ HTab_.out (bz HB.out)); rintro e w133 ⟨rfl, hb⟩; replace HO_13 := Aside0.mk (Kd.bF_ (sz HO_13.out) hb); replace HO_18 := Aside0.mk (Kd.aM_ (rz HO_18.out) hb); replace HL152_3 := Aside0.mk (Kd.aM_ (rz HL152_3.out) hb); replace HR152_3 := Aside0.mk (Kd.bk_ (by repeat (first | (with_reducible exact HR152_3.out) | (with_reducible first | refine Kd.bn_ ?_ _ | refine Kd.bm_ ?_ _ | refine Kd.bH_ ?_) | exact HR152_3.out)) hb); replace HB := Aside0.mk (ab_ (bz HB.out) hb); (try clear hb))))
               go_ret
               exact ⟨by first | rfl | (simp [ap_, ao_] <;> rfl) | (simp only [← hji128]; first | rfl | (simp [ap_, ao_] <;> rfl)) | (simp [ap_, ao_]; exact (by intro l; cases l <;> rfl : ∀ l : List UInt8, l.isEmpty = !(l != [])) _) | (simp [*, ap_, ao_] <;> rfl), bz HB.out⟩
              rw [if_pos c114] at H
              have c114b0 : decide (x25_4 < (t129.length : Int)) = true := decide_eq_true c114
              clear c114
              by_cases c115 : 0 ≤ x25_4
              rotate_left
              ·rw [if_neg c115] at H
               exact absurd H (by simp)
              rw [if_pos c115] at H
              have c115b0 : decide (0 ≤ x25_4) = true := decide_eq_true c115
              clear c115
              by_cases c116 : (rd t129 x25_4) < 1
              rotate_left
              ·rw [if_neg c116] at H
               have c116b0 : decide ((rd t129 x25_4) < 1) = false := decide_eq_false c116
               clear c116
               by_cases c118 : (rd t129 x25_4) ≥ (wrap64 ((t102.length : Int) + 1))
               rotate_left
               ·rw [if_neg c118] at H
                have c118b0 : decide ((wrap64 ((t102.length : Int) + 1)) ≤ (rd t129 x25_4)) = false := decide_eq_false c118
                clear c118
                by_cases c120 : x25_4 > 0
                rotate_left
                ·rw [if_neg c120] at H
                 have c120b0 : decide (0 < x25_4) = false := decide_eq_false c120
                 clear c120
                 have H' := Aside0.mk H
                 clear H
                 obtain ⟨Ao127, co127, eo127⟩ := Kd.bo_ HO_18.out
                 subst eo127
                 have p148 : 0 ≤ (x25_4 : Int) := of_decide_eq_true (by assumption)
                 have q148 : x25_4 < (t129.length : Int) := of_decide_eq_true (by assumption)
                 obtain ⟨ad148, e148, hx148_0⟩ := Kd.cu_ (Kd.aj_ HO_18.out).2.2 x25_4 p148 q148
                 cases e148
                 replace p148 := eq_true p148
                 replace q148 := eq_true q148
                 have p149 : 0 ≤ (x25_4 : Int) := of_decide_eq_true (by assumption)
                 have q149 : x25_4 < (t129.length : Int) := of_decide_eq_true (by assumption)
                 obtain ⟨ad149, e149, hx149_0⟩ := Kd.cu_ (Kd.aj_ HO_18.out).2.2 x25_4 p149 q149
                 obtain rfl : ad148 = ad149 := (by injection e149)
                 replace p149 := eq_true p149
                 replace q149 := eq_true q149
                 go_wp2
                 repeat (go_quiet (fail); try go_wp2)
                 go_roundg k4
                 case measure => have := HJ10.out; have := HJ30.out; have := HJ100.out; have := HK4.out; omega
                 case rel => exact ⟨(wrap64 (x25_4 + 1)), (by first | rfl | (simp; done) | (simp [*]; done)), H', ⟨by have := HJ10.out; have := HJ30.out; have := HJ100.out; have := HK4.out; omega⟩, ⟨sz HO_13.out⟩, ⟨rz HO_18.out⟩, ⟨bz HB.out⟩⟩
                rw [if_pos c120] at H
                have c120b0 : decide (0 < x25_4) = true := decide_eq_true c120
                clear c120
                obtain ⟨ji121, hji121⟩ : ∃ j_ : Int, (wrap64 (x25_4 - 1)) = j_ := ⟨_, rfl⟩
                replace H : (if 0 ≤ (ji121) then (if (ji121) < (t129.length : Int) then (if (rd t129 x25_4) ≥ (rd t129 (ji121)) then (some false) else (ae_.l0 k4 t121 (wrap64 ((t102.length : Int) + 1)) t129 (wrap64 (x25_4 + 1)))) else (none)) else (none)) = some r := by first | (rw [hji121] at H; exact H) | (simp only [hji121] at H ⊢; exact H)
                have hji121w : (IntKind.i64.wrap (x25_4 - 1)) = ji121 := (i64_w _).trans hji121
                by_cases c122 : 0 ≤ (ji121)
                rotate_left
                ·rw [if_neg c122] at H
                 exact absurd H (by simp)
                rw [if_pos c122] at H
                have c122b0 : decide (0 ≤ (ji121)) = true := decide_eq_true c122
                clear c122
                by_cases c123 : (ji121) < (t129.length : Int)
                rotate_left
                ·rw [if_neg c123] at H
                 exact absurd H (by simp)
                rw [if_pos c123] at H
                have c123b0 : decide ((ji121) < (t129.length : Int)) = true := decide_eq_true c123
                clear c123
                by_cases c124 : (rd t129 x25_4) ≥ (rd t129 (ji121))
                rotate_left
                ·rw [if_neg c124] at H
                 have c124b0 : decide ((rd t129 (ji121)) ≤ (rd t129 x25_4)) = false := decide_eq_false c124
                 clear c124
                 have H' := Aside0.mk H
                 clear H
                 obtain ⟨Ao126, co126, eo126⟩ := Kd.bo_ HO_18.out
                 subst eo126
                 have p148 : 0 ≤ (x25_4 : Int) := of_decide_eq_true (by assumption)
                 have q148 : x25_4 < (t129.length : Int) := of_decide_eq_true (by assumption)
                 obtain ⟨ad148, e148, hx148_0⟩ := Kd.cu_ (Kd.aj_ HO_18.out).2.2 x25_4 p148 q148
                 cases e148
                 replace p148 := eq_true p148
                 replace q148 := eq_true q148
                 have p149 : 0 ≤ (x25_4 : Int) := of_decide_eq_true (by assumption)
                 have q149 : x25_4 < (t129.length : Int) := of_decide_eq_true (by assumption)
                 obtain ⟨ad149, e149, hx149_0⟩ := Kd.cu_ (Kd.aj_ HO_18.out).2.2 x25_4 p149 q149
                 obtain rfl : ad148 = ad149 := (by injection e149)
                 replace p149 := eq_true p149
                 replace q149 := eq_true q149
                 have p150 : 0 ≤ (x25_4 : Int) := of_decide_eq_true (by assumption)
                 have q150 : x25_4 < (t129.length : Int) := of_decide_eq_true (by assumption)
                 obtain ⟨ad150, e150, hx150_0⟩ := Kd.cu_ (Kd.aj_ HO_18.out).2.2 x25_4 p150 q150
                 obtain rfl : ad148 = ad150 := (by injection e150)
                 replace p150 := eq_true p150
                 replace q150 := eq_true q150
                 have p151 : 0 ≤ ((ji121) : Int) := of_decide_eq_true (by assumption)
                 have q151 : (ji121) < (t129.length : Int) := of_decide_eq_true (by assumption)
                 obtain ⟨ad151, e151, hx151_0⟩ := Kd.cu_ (Kd.aj_ HO_18.out).2.2 (ji121) p151 q151
                 obtain rfl : ad148 = ad151 := (by injection e151)
                 replace p151 := eq_true p151
                 replace q151 := eq_true q151
                 go_wp2
                 repeat (go_quiet (fail); try go_wp2)
                 go_roundg k4
                 case measure => have := HJ10.out; have := HJ30.out; have := HJ100.out; have := HK4.out; omega
                 case rel => exact ⟨(wrap64 (x25_4 + 1)), (by first | rfl | (simp; done) | (simp [*]; done)), H', ⟨by have := HJ10.out; have := HJ30.out; have := HJ100.out; have := HK4.out; omega⟩, ⟨sz HO_13.out⟩, ⟨rz HO_18.out⟩, ⟨bz HB.out⟩⟩
                rw [if_pos c124] at H
                have c124b0 : decide ((rd t129 (ji121)) ≤ (rd t129 x25_4)) = true := decide_eq_true c124
                clear c124
                obtain rfl := Option.some.inj H
                obtain ⟨Ao125, co125, eo125⟩ := Kd.bo_ HO_18.out
                subst eo125
                have p148 : 0 ≤ (x25_4 : Int) := of_decide_eq_true (by assumption)
                have q148 : x25_4 < (t129.length : Int) := of_decide_eq_true (by assumption)
                obtain ⟨ad148, e148, hx148_0⟩ := Kd.cu_ (Kd.aj_ HO_18.out).2.2 x25_4 p148 q148
                cases e148
                replace p148 := eq_true p148
                replace q148 := eq_true q148
                have p149 : 0 ≤ (x25_4 : Int) := of_decide_eq_true (by assumption)
                have q149 : x25_4 < (t129.length : Int) := of_decide_eq_true (by assumption)
                obtain ⟨ad149, e149, hx149_0⟩ := Kd.cu_ (Kd.aj_ HO_18.out).2.2 x25_4 p149 q149
                obtain rfl : ad148 = ad149 := (by injection e149)
                replace p149 := eq_true p149
                replace q149 := eq_true q149
                have p150 : 0 ≤ (x25_4 : Int) := of_decide_eq_true (by assumption)
                have q150 : x25_4 < (t129.length : Int) := of_decide_eq_true (by assumption)
                obtain ⟨ad150, e150, hx150_0⟩ := Kd.cu_ (Kd.aj_ HO_18.out).2.2 x25_4 p150 q150
                obtain rfl : ad148 = ad150 := (by injection e150)
                replace p150 := eq_true p150
                replace q150 := eq_true q150
                have p151 : 0 ≤ ((ji121) : Int) := of_decide_eq_true (by assumption)
                have q151 : (ji121) < (t129.length : Int) := of_decide_eq_true (by assumption)
                obtain ⟨ad151, e151, hx151_0⟩ := Kd.cu_ (Kd.aj_ HO_18.out).2.2 (ji121) p151 q151
                obtain rfl : ad148 = ad151 := (by injection e151)
                replace p151 := eq_true p151
                replace q151 := eq_true q151
                go_wp2
                repeat (go_quiet (fail); try go_wp2)
                go_ret
                exact ⟨by first | rfl | (simp [ap_, ao_] <;> rfl) | (simp only [← hji121]; first | rfl | (simp [ap_, ao_] <;> rfl)) | (simp [*, ap_, ao_] <;> rfl), bz HB.out⟩
               rw [if_pos c118] at H
               have c118b0 : decide ((wrap64 ((t102.length : Int) + 1)) ≤ (rd t129 x25_4)) = true := decide_eq_true c118
               clear c118
               obtain rfl := Option.some.inj H
               obtain ⟨Ao119, co119, eo119⟩ := Kd.bo_ HO_18.out
               subst eo119
               have p148 : 0 ≤ (x25_4 : Int) := of_decide_eq_true (by assumption)
               have q148 : x25_4 < (t129.length : Int) := of_decide_eq_true (by assumption)
               obtain ⟨ad148, e148, hx148_0⟩ := Kd.cu_ (Kd.aj_ HO_18.out).2.2 x25_4 p148 q148
               cases e148
               replace p148 := eq_true p148
               replace q148 := eq_true q148
               have p149 : 0 ≤ (x25_4 : Int) := of_decide_eq_true (by assumption)
               have q149 : x25_4 < (t129.length : Int) := of_decide_eq_true (by assumption)
               obtain ⟨ad149, e149, hx149_0⟩ := Kd.cu_ (Kd.aj_ HO_18.out).2.2 x25_4 p149 q149
               obtain rfl : ad148 = ad149 := (by injection e149)
               replace p149 := eq_true p149
               replace q149 := eq_true q149
               go_wp2
               repeat (go_quiet (fail); try go_wp2)
               go_ret
               exact ⟨by first | rfl | (simp [*, ap_, ao_] <;> rfl), bz HB.out⟩
              rw [if_pos c116] at H
              have c116b0 : decide ((rd t129 x25_4) < 1) = true := decide_eq_true c116
              clear c116
              obtain rfl := Option.some.inj H
              obtain ⟨Ao117, co117, eo117⟩ := Kd.bo_ HO_18.out
              subst eo117
              have p148 : 0 ≤ (x25_4 : Int) := of_decide_eq_true (by assumption)
              have q148 : x25_4 < (t129.length : Int) := of_decide_eq_true (by assumption)
              obtain ⟨ad148, e148, hx148_0⟩ := Kd.cu_ (Kd.aj_ HO_18.out).2.2 x25_4 p148 q148
              cases e148
              replace p148 := eq_true p148
              replace q148 := eq_true q148
              go_wp2
              repeat (go_quiet (fail); try go_wp2)
              go_ret
              exact ⟨by first | rfl | (simp [*, ap_, ao_] <;> rfl), bz HB.out⟩
           subst c113
           have H1 : (some false) = some r := by rw [if_pos rfl] at H; exact H
           clear H
           have H := H1
           clear H1
           obtain rfl := Option.some.inj H
           go_wp2
           repeat (go_quiet (fail); try go_wp2)
           go_ret
           exact ⟨by first | rfl | (simp [*, ap_, ao_] <;> rfl), bz HB.out⟩
        rw [if_pos c66] at H
        have c66b0 : decide (0 < t120) = true := decide_eq_true c66
        clear c66
        (first | rw [c66b0] | (simp only [i64_w, i32_w]; rw [c66b0]) | (simp only [c66b1, Bool.not_true, Bool.not_false]) | (simp only [c66b0, Bool.not_true, Bool.not_false]) | skip)
        obtain ⟨ji67, hji67⟩ : ∃ j_ : Int, (wrap64 (t120 - 1)) = j_ := ⟨_, rfl⟩
        replace H : (if 0 ≤ (ji67) then (if (ji67) < (t102.length : Int) then (if 0 ≤ (wrap64 ((t102.length : Int) + 1)) then (if (wrap64 ((t102.length : Int) + 1)) < (t125.length : Int) then ((aU_.f kj30 ((ar_ t125 (wrap64 ((t102.length : Int) + 1))).f3) ((ar_ t102 (ji67)).f3)).bind fun t146 => (if t146 = true then ((ba_.f kj30 t129 t120).bind fun t147 => (ae_.j2 kj30 t121 (wrap64 ((t102.length : Int) + 1)) t129 ((decide (t120 > 0)) != t147))) else (ae_.j2 kj30 t121 (wrap64 ((t102.length : Int) + 1)) t129 true))) else (none)) else (none)) else (none)) else (none)) = some r := by first | (rw [hji67] at H; exact H) | (simp only [hji67] at H ⊢; exact H)
        have hji67w : (IntKind.i64.wrap (t120 - 1)) = ji67 := (i64_w _).trans hji67
        by_cases c68 : 0 ≤ (ji67)
        rotate_left
        ·rw [if_neg c68] at H
         exact absurd H (by simp)
        rw [if_pos c68] at H
        have c68b0 : decide (0 ≤ (ji67)) = true := decide_eq_true c68
        clear c68
        by_cases c69 : (ji67) < (t102.length : Int)
        rotate_left
        ·rw [if_neg c69] at H
         exact absurd H (by simp)
        rw [if_pos c69] at H
        have c69b0 : decide ((ji67) < (t102.length : Int)) = true := decide_eq_true c69
        clear c69
        have HC70 := Aside0.mk H
        clear H
        have p144 : 0 ≤ ((ji67) : Int) := of_decide_eq_true (by assumption)
        have q144 : (ji67) < (t102.length : Int) := of_decide_eq_true (by assumption)
        obtain ⟨ad144, A144_3, c144_3, e144, hx144_0, hx144_1, hx144_2, hx144_3, hl144_3, hi144_3⟩ := da_ (Kd.bp_ HO_5.out).2.2 (ji67) p144 q144
        cases e144
        obtain ⟨ce144, hce144, hMe144, hcc144⟩ := Kd.S_get HO_5.out z48 (ji67) p144 (by first | exact q144 | exact of_decide_eq_true (by assumption) | (have e_ := (Kd.bp_ HO_5.out).1; omega))
        obtain ⟨ve144_3, rfl, ge144_3⟩ := dC_ hMe144
        have hv144_3 := hcc144 3 _ rfl
        rw [cd_ _ _ 3 (by omega)] at hv144_3
        replace hv144_3 := Option.some.inj (hv144_3.symm.trans hx144_3)
        rw [hv144_3] at ge144_3
        have HL144_3 := Aside0.mk (show Kd.R k59 59 _ _ _ _ ((ar_ t102 (ji67)).f3) from ge144_3)
        clear hv144_3 ge144_3
        clear hcc144 hce144
        have HR144_3 := Aside0.mk hi144_3
        have HC144_3 := Aside0.mk hl144_3
        clear hi144_3 hl144_3
        replace p144 := eq_true p144
        replace q144 := eq_true q144
        go_upto_region 22 with (fail)
        repeat (go_quiet (fail); go_upto_region 22 with (fail))
        go_cut [170] (fun v170 wc => ∃ (kq : Nat) (x170_69 : Bool), v170 = .bool x170_69 ∧ Aside0 (ae_.j2 kq t121 (wrap64 ((t102.length : Int) + 1)) t129 x170_69 = some r) ∧ Aside0 (kq ≤ kj30) ∧ Aside0 (Kd.S k48 48 wc w.heap.size (fun _ => True) (.slice Ao34 t121.length co34) t121) ∧ Aside0 (Kd.R (Kd.int .i64) 2 wc w.heap.size (fun _ => True) v131 t129) ∧ Aside0 (Kd.C k59 wc A144_3 ((ar_ t102 (ji67)).f3).length ((ar_ t102 (ji67)).f3)) ∧ Aside0 (Below w.heap.size w wc))
        case first =>
         have H := HC70.out
         clear HC70
         obtain ⟨ji71, hji71⟩ : ∃ j_ : Int, (wrap64 ((t102.length : Int) + 1)) = j_ := ⟨_, rfl⟩
         replace H : (if 0 ≤ (ji71) then (if (ji71) < (t125.length : Int) then ((aU_.f kj30 ((ar_ t125 (ji71)).f3) ((ar_ t102 (ji67)).f3)).bind fun t146 => (if t146 = true then ((ba_.f kj30 t129 t120).bind fun t147 => (ae_.j2 kj30 t121 (ji71) t129 ((decide (t120 > 0)) != t147))) else (ae_.j2 kj30 t121 (ji71) t129 true))) else (none)) else (none)) = some r := by first | (rw [hji71] at H; exact H) | (simp only [hji71] at H ⊢; exact H)
         have hji71w : (IntKind.i64.wrap ((t102.length : Int) + 1)) = ji71 := (i64_w _).trans hji71
         by_cases c72 : 0 ≤ (ji71)
         rotate_left
         ·rw [if_neg c72] at H
          exact absurd H (by simp)
         rw [if_pos c72] at H
         have c72b0 : decide (0 ≤ (ji71)) = true := decide_eq_true c72
         clear c72
         (first | rw [c72b0] | (simp only [i64_w, i32_w]; rw [c72b0]) | (simp only [c72b1, Bool.not_true, Bool.not_false]) | (simp only [c72b0, Bool.not_true, Bool.not_false]) | skip)
         by_cases c73 : (ji71) < (t125.length : Int)
         rotate_left
         ·rw [if_neg c73] at H
          exact absurd H (by simp)
         rw [if_pos c73] at H
         have c73b0 : decide ((ji71) < (t125.length : Int)) = true := decide_eq_true c73
         clear c73
         replace H := Option.bind_eq_some_iff.mp H
         obtain ⟨t146, A740, H⟩ := H
         (try dsimp only at H)
         have A74 := Aside0.mk A740
         clear A740
         by_cases c75 : t146 = true
         rotate_left
         ·replace c75 := Bool.eq_false_iff.mpr c75
          subst c75
          have H1 : (ae_.j2 kj30 t121 (ji71) t129 true) = some r := by rw [if_neg (show ¬ (false = true) by decide)] at H; exact H
          clear H
          have H := H1
          clear H1
          have H' := Aside0.mk H
          clear H
          obtain ⟨Ao79, co79, eo79⟩ := Kd.do_ HO_16.out
          subst eo79
          have p145 : 0 ≤ ((ji71) : Int) := of_decide_eq_true (by assumption)
          have q145 : (ji71) < (t125.length : Int) := of_decide_eq_true (by assumption)
          obtain ⟨ad145, A145_3, c145_3, e145, hx145_0, hx145_1, hx145_2, hx145_3, hl145_3, hi145_3⟩ := da_ (Kd.bp_ HO_16.out).2.2 (ji71) p145 q145
          cases e145
          obtain ⟨ce145, hce145, hMe145, hcc145⟩ := Kd.S_get HO_16.out z48 (ji71) p145 (by first | exact q145 | exact of_decide_eq_true (by assumption) | (have e_ := (Kd.bp_ HO_16.out).1; omega))
          obtain ⟨ve145_3, rfl, ge145_3⟩ := dC_ hMe145
          have hv145_3 := hcc145 3 _ rfl
          rw [cd_ _ _ 3 (by omega)] at hv145_3
          replace hv145_3 := Option.some.inj (hv145_3.symm.trans hx145_3)
          rw [hv145_3] at ge145_3
          have HL145_3 := Aside0.mk (show Kd.R k59 59 _ _ _ _ ((ar_ t125 (ji71)).f3) from ge145_3)
          clear hv145_3 ge145_3
          clear hcc145 hce145
          have HR145_3 := Aside0.mk hi145_3
          have HC145_3 := Aside0.mk hl145_3
          clear hi145_3 hl145_3
          replace p145 := eq_true p145
          replace q145 := eq_true q145
          go_wp2_with (first | (go_at_call 10; (with_reducible refine (aU_.calls kj30 _ _ ((ar_ t125 (ji71)).f3) _ _ ((ar_ t102 (ji67)).f3) false _ ?side1 ?side2 ?side3 ?side4 A74.out).mono ?_); (case side1 => repeat (first | exact (by repeat (first | (with_reducible exact HR145_3.out) | (with_reducible first | refine Kd.bn_ ?_ _ | refine Kd.bm_ ?_ _ | refine Kd.bH_ ?_) | exact HR145_3.out)) | (with_reducible first | refine Kd.bn_ ?_ _ | refine Kd.bm_ ?_ _ | refine Kd.bH_ ?_))); (case side2 => exact HC145_3.out); (case side3 => repeat (first | exact (by repeat (first | (with_reducible exact HR144_3.out) | (with_reducible first | refine Kd.bn_ ?_ _ | refine Kd.bm_ ?_ _ | refine Kd.bH_ ?_) | exact HR144_3.out)) | (with_reducible first | refine Kd.bn_ ?_ _ | refine Kd.bm_ ?_ _ | refine Kd.bH_ ?_))); (case side4 => exact HC144_3.out); rintro e w' ⟨rfl, ⟨nd, rfl⟩⟩; (try first | exact ⟨rfl, _, World.drewN_drewN _ _ _⟩ | exact ⟨rfl, _, Eq.trans (World.drewN_drewN _ _ _) (congrArg (World.drewN _) (Nat.add_assoc _ _ _))⟩)))
          repeat (go_quiet (first | (go_at_call 10; (with_reducible refine (aU_.calls kj30 _ _ ((ar_ t125 (ji71)).f3) _ _ ((ar_ t102 (ji67)).f3) false _ ?side1 ?side2 ?side3 ?side4 A74.out).mono ?_); (case side1 => repeat (first | exact (by repeat (first | (with_reducible exact HR145_3.out) | (with_reducible first | refine Kd.bn_ ?_ _ | refine Kd.bm_ ?_ _ | refine Kd.bH_ ?_) | exact HR145_3.out)) | (with_reducible first | refine Kd.bn_ ?_ _ | refine Kd.bm_ ?_ _ | refine Kd.bH_ ?_))); (case side2 => exact HC145_3.out); (case side3 => repeat (first | exact (by repeat (first | (with_reducible exact HR144_3.out) | (with_reducible first | refine Kd.bn_ ?_ _ | refine Kd.bm_ ?_ _ | refine Kd.bH_ ?_) | exact HR144_3.out)) | (with_reducible first | refine Kd.bn_ ?_ _ | refine Kd.bm_ ?_ _ | refine Kd.bH_ ?_))); (case side4 => exact HC144_3.out); rintro e w' ⟨rfl, ⟨nd, rfl⟩⟩; (try first | exact ⟨rfl, _, World.drewN_drewN _ _ _⟩ | exact ⟨rfl, _, Eq.trans (World.drewN_drewN _ _ _) (congrArg (World.drewN _) (Nat.add_assoc _ _ _))⟩))); try go_wp2_with (first | (go_at_call 10; (with_reducible refine (aU_.calls kj30 _ _ ((ar_ t125 (ji71)).f3) _ _ ((ar_ t102 (ji67)).f3) false _ ?side1 ?side2 ?side3 ?side4 A74.out).mono ?_); (case side1 => repeat (first | exact (by repeat (first | (with_reducible exact HR145_3.out) | (with_reducible first | refine Kd.bn_ ?_ _ | refine Kd.bm_ ?_ _ | refine Kd.bH_ ?_) | exact HR145_3.out)) | (with_reducible first | refine Kd.bn_ ?_ _ | refine Kd.bm_ ?_ _ | refine Kd.bH_ ?_))); (case side2 => exact HC145_3.out); (case side3 => repeat (first | exact (by repeat (first | (with_reducible exact HR144_3.out) | (with_reducible first | refine Kd.bn_ ?_ _ | refine Kd.bm_ ?_ _ | refine Kd.bH_ ?_) | exact HR144_3.out)) | (with_reducible first | refine Kd.bn_ ?_ _ | refine Kd.bm_ ?_ _ | refine Kd.bH_ ?_))); (case side4 => exact HC144_3.out); rintro e w' ⟨rfl, ⟨nd, rfl⟩⟩; (try first | exact ⟨rfl, _, World.drewN_drewN _ _ _⟩ | exact ⟨rfl, _, Eq.trans (World.drewN_drewN _ _ _) (congrArg (World.drewN _) (Nat.add_assoc _ _ _))⟩))))
          (try simp only [← hji71]); go_meet
          case rel => (try simp only [hji71]); exact ⟨_, (true), (by first | rfl | (simp; done) | (simp [*]; done)), H', ⟨by have := HJ10.out; have := HJ30.out; first | omega | exact Nat.le_refl _⟩, ⟨sz (Kd.bE_ HO_13.out (fun _ hk => trivial))⟩, ⟨rz HO_18.out⟩, ⟨by repeat (first | (with_reducible exact HR144_3.out) | (with_reducible first | refine Kd.bn_ ?_ _ | refine Kd.bm_ ?_ _ | refine Kd.bH_ ?_) | exact HR144_3.out)⟩, ⟨bz HB.out⟩⟩
         subst c75
         have H1 : ((ba_.f kj30 t129 t120).bind fun t147 => (ae_.j2 kj30 t121 (ji71) t129 ((decide (t120 > 0)) != t147))) = some r := by rw [if_pos rfl] at H; exact H
         clear H
         have H := H1
         clear H1
         replace H := Option.bind_eq_some_iff.mp H
         obtain ⟨t147, A760, H⟩ := H
         (try dsimp only at H)
         have A76 := Aside0.mk A760
         clear A760
         have H' := Aside0.mk H
         clear H
         obtain ⟨Ao77, co77, eo77⟩ := Kd.do_ HO_16.out
         subst eo77
         have p145 : 0 ≤ ((ji71) : Int) := of_decide_eq_true (by assumption)
         have q145 : (ji71) < (t125.length : Int) := of_decide_eq_true (by assumption)
         obtain ⟨ad145, A145_3, c145_3, e145, hx145_0, hx145_1, hx145_2, hx145_3, hl145_3, hi145_3⟩ := da_ (Kd.bp_ HO_16.out).2.2 (ji71) p145 q145
         cases e145
         obtain ⟨ce145, hce145, hMe145, hcc145⟩ := Kd.S_get HO_16.out z48 (ji71) p145 (by first | exact q145 | exact of_decide_eq_true (by assumption) | (have e_ := (Kd.bp_ HO_16.out).1; omega))
         obtain ⟨ve145_3, rfl, ge145_3⟩ := dC_ hMe145
         have hv145_3 := hcc145 3 _ rfl
         rw [cd_ _ _ 3 (by omega)] at hv145_3
         replace hv145_3 := Option.some.inj (hv145_3.symm.trans hx145_3)
         rw [hv145_3] at ge145_3
         have HL145_3 := Aside0.mk (show Kd.R k59 59 _ _ _ _ ((ar_ t125 (ji71)).f3) from ge145_3)
         clear hv145_3 ge145_3
         clear hcc145 hce145
         have HR145_3 := Aside0.mk hi145_3
         have HC145_3 := Aside0.mk hl145_3
         clear hi145_3 hl145_3
         replace p145 := eq_true p145
         replace q145 := eq_true q145
         obtain ⟨Ao78, co78, eo78⟩ := Kd.bo_ HO_18.out
         subst eo78
         go_wp2_with (first | (go_at_call 10; (with_reducible refine (aU_.calls kj30 _ _ ((ar_ t125 (ji71)).f3) _ _ ((ar_ t102 (ji67)).f3) true _ ?side1 ?side2 ?side3 ?side4 A74.out).mono ?_); (case side1 => repeat (first | exact (by repeat (first | (with_reducible exact HR145_3.out) | (with_reducible first | refine Kd.bn_ ?_ _ | refine Kd.bm_ ?_ _ | refine Kd.bH_ ?_) | exact HR145_3.out)) | (with_reducible first | refine Kd.bn_ ?_ _ | refine Kd.bm_ ?_ _ | refine Kd.bH_ ?_))); (case side2 => exact HC145_3.out); (case side3 => repeat (first | exact (by repeat (first | (with_reducible exact HR144_3.out) | (with_reducible first | refine Kd.bn_ ?_ _ | refine Kd.bm_ ?_ _ | refine Kd.bH_ ?_) | exact HR144_3.out)) | (with_reducible first | refine Kd.bn_ ?_ _ | refine Kd.bm_ ?_ _ | refine Kd.bH_ ?_))); (case side4 => exact HC144_3.out); rintro e w' ⟨rfl, ⟨nd, rfl⟩⟩; (try first | exact ⟨rfl, _, World.drewN_drewN _ _ _⟩ | exact ⟨rfl, _, Eq.trans (World.drewN_drewN _ _ _) (congrArg (World.drewN _) (Nat.add_assoc _ _ _))⟩)) | (go_at_call 17; (with_reducible refine (ba_.calls kj30 _ _ t129 t120 t147 _ ?side1 ?side2 A76.out).mono ?_); (case side1 => exact cz (Kd.aj_ HO_18.out).2.2); (case side2 => exact (Kd.aj_ HO_18.out).2.1); rintro e w' ⟨rfl, ⟨nd, rfl⟩⟩; (try first | exact ⟨rfl, _, World.drewN_drewN _ _ _⟩ | exact ⟨rfl, _, Eq.trans (World.drewN_drewN _ _ _) (congrArg (World.drewN _) (Nat.add_assoc _ _ _))⟩)))
         repeat (go_quiet (first | (go_at_call 10; (with_reducible refine (aU_.calls kj30 _ _ ((ar_ t125 (ji71)).f3) _ _ ((ar_ t102 (ji67)).f3) true _ ?side1 ?side2 ?side3 ?side4 A74.out).mono ?_); (case side1 => repeat (first | exact (by repeat (first | (with_reducible exact HR145_3.out) | (with_reducible first | refine Kd.bn_ ?_ _ | refine Kd.bm_ ?_ _ | refine Kd.bH_ ?_) | exact HR145_3.out)) | (with_reducible first | refine Kd.bn_ ?_ _ | refine Kd.bm_ ?_ _ | refine Kd.bH_ ?_))); (case side2 => exact HC145_3.out); (case side3 => repeat (first | exact (by repeat (first | (with_reducible exact HR144_3.out) | (with_reducible first | refine Kd.bn_ ?_ _ | refine Kd.bm_ ?_ _ | refine Kd.bH_ ?_) | exact HR144_3.out)) | (with_reducible first | refine Kd.bn_ ?_ _ | refine Kd.bm_ ?_ _ | refine Kd.bH_ ?_))); (case side4 => exact HC144_3.out); rintro e w' ⟨rfl, ⟨nd, rfl⟩⟩; (try first | exact ⟨rfl, _, World.drewN_drewN _ _ _⟩ | exact ⟨rfl, _, Eq.trans (World.drewN_drewN _ _ _) (congrArg (World.drewN _) (Nat.add_assoc _ _ _))⟩)) | (go_at_call 17; (with_reducible refine (ba_.calls kj30 _ _ t129 t120 t147 _ ?side1 ?side2 A76.out).mono ?_); (case side1 => exact cz (Kd.aj_ HO_18.out).2.2); (case side2 => exact (Kd.aj_ HO_18.out).2.1); rintro e w' ⟨rfl, ⟨nd, rfl⟩⟩; (try first | exact ⟨rfl, _, World.drewN_drewN _ _ _⟩ | exact ⟨rfl, _, Eq.trans (World.drewN_drewN _ _ _) (congrArg (World.drewN _) (Nat.add_assoc _ _ _))⟩))); try go_wp2_with (first | (go_at_call 10; (with_reducible refine (aU_.calls kj30 _ _ ((ar_ t125 (ji71)).f3) _ _ ((ar_ t102 (ji67)).f3) true _ ?side1 ?side2 ?side3 ?side4 A74.out).mono ?_); (case side1 => repeat (first | exact (by repeat (first | (with_reducible exact HR145_3.out) | (with_reducible first | refine Kd.bn_ ?_ _ | refine Kd.bm_ ?_ _ | refine Kd.bH_ ?_) | exact HR145_3.out)) | (with_reducible first | refine Kd.bn_ ?_ _ | refine Kd.bm_ ?_ _ | refine Kd.bH_ ?_))); (case side2 => exact HC145_3.out); (case side3 => repeat (first | exact (by repeat (first | (with_reducible exact HR144_3.out) | (with_reducible first | refine Kd.bn_ ?_ _ | refine Kd.bm_ ?_ _ | refine Kd.bH_ ?_) | exact HR144_3.out)) | (with_reducible first | refine Kd.bn_ ?_ _ | refine Kd.bm_ ?_ _ | refine Kd.bH_ ?_))); (case side4 => exact HC144_3.out); rintro e w' ⟨rfl, ⟨nd, rfl⟩⟩; (try first | exact ⟨rfl, _, World.drewN_drewN _ _ _⟩ | exact ⟨rfl, _, Eq.trans (World.drewN_drewN _ _ _) (congrArg (World.drewN _) (Nat.add_assoc _ _ _))⟩)) | (go_at_call 17; (with_reducible refine (ba_.calls kj30 _ _ t129 t120 t147 _ ?side1 ?side2 A76.out).mono ?_); (case side1 => exact cz (Kd.aj_ HO_18.out).2.2); (case side2 => exact (Kd.aj_ HO_18.out).2.1); rintro e w' ⟨rfl, ⟨nd, rfl⟩⟩; (try first | exact ⟨rfl, _, World.drewN_drewN _ _ _⟩ | exact ⟨rfl, _, Eq.trans (World.drewN_drewN _ _ _) (congrArg (World.drewN _) (Nat.add_assoc _ _ _))⟩))))
         (try simp only [← hji71]); go_meet
         case rel => (try simp only [hji71]); exact ⟨_, (((decide (t120 > 0)) != t147)), (by first | rfl | (simp; done) | (simp [*]; done)), H', ⟨by have := HJ10.out; have := HJ30.out; first | omega | exact Nat.le_refl _⟩, ⟨sz (Kd.bE_ HO_13.out (fun _ hk => trivial))⟩, ⟨rz HO_18.out⟩, ⟨by repeat (first | (with_reducible exact HR144_3.out) | (with_reducible first | refine Kd.bn_ ?_ _ | refine Kd.bm_ ?_ _ | refine Kd.bH_ ?_) | exact HR144_3.out)⟩, ⟨bz HB.out⟩⟩
        case rest => as_aux_lemma =>
         clear HC70
         obtain ⟨kq, x170_69, rfl, HA, HJ69, HO_13, HO_18, HR144_3, HB⟩ := hcut
         cases kq with
         | zero => exact absurd HA.out (by simp [ae_.j2])
         | succ kj69 =>
          have H := HA.out
          clear HA
          simp only [ae_.j2] at H
          by_cases c80 : x170_69 = true
          rotate_left
          ·replace c80 := Bool.eq_false_iff.mpr c80
           subst c80
           have H1 : (ae_.l0 kj69 t121 (wrap64 ((t102.length : Int) + 1)) t129 0) = some r := by rw [if_neg (show ¬ (false = true) by decide)] at H; exact H
           clear H
           have H := H1
           clear H1
           have H' := Aside0.mk H
           clear H
           go_wp2
           repeat (go_quiet (fail); try go_wp2)
           (try simp only [Act.put, lsa_, ls0_, ls1_])
           go_loopg [25] kj69 (fun kq v25 w' => ∃ (x25_4 : Int), v25 = .int .i64 x25_4 ∧ Aside0 (ae_.l0 kq t121 (wrap64 ((t102.length : Int) + 1)) t129 x25_4 = some r) ∧ Aside0 (kq ≤ kj69) ∧ Aside0 (Kd.S k48 48 w' w.heap.size (fun _ => True) (.slice Ao34 t121.length co34) t121) ∧ Aside0 (Kd.R (Kd.int .i64) 2 w' w.heap.size (fun _ => True) v131 t129) ∧ Aside0 (Below w.heap.size w w'))
           case atStart => exact ⟨(0), (by first | rfl | (simp; done) | (simp [*]; done)), H', ⟨Nat.le_refl _⟩, ⟨sz HO_13.out⟩, ⟨rz HO_18.out⟩, ⟨bz HB.out⟩⟩
           case round =>
            clear H'
            obtain ⟨x25_4, rfl, HA, HK4, HO_13, HO_18, HB⟩ := hrel
            cases gk with
            | zero => exact absurd HA.out (by simp [ae_.l0])
            | succ k4 =>
             have H := HA.out
             clear HA
             simp only [ae_.l0] at H
             by_cases c81 : x25_4 < (t129.length : Int)
             rotate_left
             ·rw [if_neg c81] at H
              have c81b0 : decide (x25_4 < (t129.length : Int)) = false := decide_eq_false c81
              clear c81
              obtain ⟨ji95, hji95⟩ : ∃ j_ : Int, (wrap64 ((wrap64 ((t102.length : Int) + 1)) - 1)) = j_ := ⟨_, rfl⟩
              replace H : (if 0 ≤ (ji95) then (if (ji95) < (t121.length : Int) then ((am_.f k4 ((ar_ t121 (ji95)).f0) ((ar_ t121 (ji95)).f1) ((ar_ t121 (ji95)).f2) ((ar_ t121 (ji95)).f3)).bind fun t153 => (some (t153.toList != ([] : List UInt8)))) else (none)) else (none)) = some r := by first | (rw [hji95] at H; exact H) | (simp only [hji95] at H ⊢; exact H)
              have hji95w : (IntKind.i64.wrap ((wrap64 ((t102.length : Int) + 1)) - 1)) = ji95 := (i64_w _).trans hji95
              by_cases c96 : 0 ≤ (ji95)
              rotate_left
              ·rw [if_neg c96] at H
               exact absurd H (by simp)
              rw [if_pos c96] at H
              have c96b0 : decide (0 ≤ (ji95)) = true := decide_eq_true c96
              clear c96
              by_cases c97 : (ji95) < (t121.length : Int)
              rotate_left
              ·rw [if_neg c97] at H
               exact absurd H (by simp)
              rw [if_pos c97] at H
              have c97b0 : decide ((ji95) < (t121.length : Int)) = true := decide_eq_true c97
              clear c97
              replace H := Option.bind_eq_some_iff.mp H
              obtain ⟨t153, A980, H⟩ := H
              (try dsimp only at H)
              have A98 := Aside0.mk A980
              clear A980
              obtain rfl := Option.some.inj H
              obtain ⟨Ao99, co99, eo99⟩ := Kd.bo_ HO_18.out
              subst eo99
              have p152 : 0 ≤ ((ji95) : Int) := of_decide_eq_true (by assumption)
              have q152 : (ji95) < (t121.length : Int) := of_decide_eq_true (by assumption)
              obtain ⟨ad152, A152_3, c152_3, e152, hx152_0, hx152_1, hx152_2, hx152_3, hl152_3, hi152_3⟩ := da_ (Kd.bp_ HO_13.out).2.2 (ji95) p152 q152
              cases e152
              obtain ⟨ce152, hce152, hMe152, hcc152⟩ := Kd.S_get HO_13.out z48 (ji95) p152 (by first | exact q152 | exact of_decide_eq_true (by assumption) | (have e_ := (Kd.bp_ HO_13.out).1; omega))
              obtain ⟨ve152_3, rfl, ge152_3⟩ := dC_ hMe152
              have hv152_3 := hcc152 3 _ rfl
              rw [cd_ _ _ 3 (by omega)] at hv152_3
              replace hv152_3 := Option.some.inj (hv152_3.symm.trans hx152_3)
              rw [hv152_3] at ge152_3
              have HL152_3 := Aside0.mk (show Kd.R k59 59 _ _ _ _ ((ar_ t121 (ji95)).f3) from ge152_3)
              clear hv152_3 ge152_3
              clear hcc152 hce152
              have HR152_3 := Aside0.mk hi152_3
              have HC152_3 := Aside0.mk hl152_3
              clear hi152_3 hl152_3
              replace p152 := eq_true p152
              replace q152 := eq_true q152
              go_wp2_with (first | (go_at_call 19; (with_reducible refine (am_.calls k4 ((ar_ t121 (ji95)).f0) ((ar_ t121 (ji95)).f1) ((ar_ t121 (ji95)).f2) _ _ ((ar_ t121 (ji95)).f3) t153 _ ?side1 ?side2 ?side3 A98.out).mono ?_); (case side1 => repeat (first | exact (by repeat (first | (with_reducible exact HR152_3.out) | (with_reducible first | refine Kd.bn_ ?_ _ | refine Kd.bm_ ?_ _ | refine Kd.bH_ ?_) | exact HR152_3.out)) | (with_reducible first | refine Kd.bn_ ?_ _ | refine Kd.bm_ ?_ _ | refine Kd.bH_ ?_))); (case side2 => exact HC152_3.out); (case side3 => exact cM_ HTab_.out (bz HB.out)); rintro e w100 ⟨rfl, hb⟩; replace HO_13 := Aside0.mk (Kd.bF_ (sz HO_13.out) hb); replace HO_18 := Aside0.mk (Kd.aM_ (rz HO_18.out) hb); replace HL152_3 := Aside0.mk (Kd.aM_ (rz HL152_3.out) hb); replace HR152_3 := Aside0.mk (Kd.bk_ (by repeat (first | (with_reducible exact HR152_3.out) | (with_reducible first | refine Kd.bn_ ?_ _ | refine Kd.bm_ ?_ _ | refine Kd.bH_ ?_) | exact HR152_3.out)) hb); replace HB := Aside0.mk (ab_ (bz HB.out) hb); (try clear hb)))
              repeat (go_quiet (first | (go_at_call 19; (with_reducible refine (am_.calls k4 ((ar_ t121 (ji95)).f0) ((ar_ t121 (ji95)).f1) ((ar_ t121 (ji95)).f2) _ _ ((ar_ t121 (ji95)).f3) t153 _ ?side1 ?side2 ?side3 A98.out).mono ?_); (case side1 => repeat (first | exact (by repeat (first | (with_reducible exact HR152_3.out) | (with_reducible first | refine Kd.bn_ ?_ _ | refine Kd.bm_ ?_ _ | refine Kd.bH_ ?_) | exact HR152_3.out)) | (with_reducible first | refine Kd.bn_ ?_ _ | refine Kd.bm_ ?_ _ | refine Kd.bH_ ?_))); (case side2 => exact HC152_3.out); (case side3 => exact cM_ HTab_.out (bz HB.out)); rintro e w100 ⟨rfl, hb⟩; replace HO_13 := Aside0.mk (Kd.bF_ (sz HO_13.out) hb); replace HO_18 := Aside0.mk (Kd.aM_ (rz HO_18.out) hb); replace HL152_3 := Aside0.mk (Kd.aM_ (rz HL152_3.out) hb); replace HR152_3 := Aside0.mk (Kd.bk_ (by repeat (first | (with_reducible exact HR152_3.out) | (with_reducible first | refine Kd.bn_ ?_ _ | refine Kd.bm_ ?_ _ | refine Kd.bH_ ?_) | exact HR152_3.out)) hb); replace HB := Aside0.mk (ab_ (bz HB.out) hb); (try clear hb))); try go_wp2_with (first | (go_at_call 19; (with_reducible refine (am_.calls k4 ((ar_ t121 (ji95)).f0) ((ar_ t121 (ji95)).f1) ((ar_ t121 (ji95)).f2) _ _ ((ar_ t121 (ji95)).f3) t153 _ ?side1 ?side2 ?side3 A98.out).mono ?_); (case side1 => repeat (first | exact (by repeat (first | (with_reducible exact HR152_3.out) | (with_reducible first | refine Kd.bn_ ?_ _ | refine Kd.bm_ ?_ _ | refine Kd.bH_ ?_) | exact HR152_3.out)) | (with_reducible first | refine Kd.bn_ ?_ _ | refine Kd.bm_ ?_ _ | refine Kd.bH_ ?_))); (case side2 => exact HC152_3.out); (case side3 => exact cM_ HTab_.out (bz HB.out)); rintro e w100 ⟨rfl, hb⟩; replace HO_13 := Aside0.mk (Kd.bF_ (sz HO_13.out) hb); replace HO_18 := Aside0.mk (Kd.aM_ (rz HO_18.out) hb); replace HL152_3 := Aside0.mk (Kd.aM_ (rz HL152_3.out) hb); replace HR152_3 := Aside0.mk (Kd.bk_ (by repeat (first | (with_reducible exact HR152_3.out) | (with_reducible first | refine Kd.bn_ ?_ _ | refine Kd.bm_ ?_ _ | refine Kd.bH_ ?_) | exact HR152_3.out)) hb); replace HB := Aside0.mk (ab_ (bz HB.out) hb); (try clear hb))))
              go_ret
              exact ⟨by first | rfl | (simp [ap_, ao_] <;> rfl) | (simp only [← hji67, ← hji95]; first | rfl | (simp [ap_, ao_] <;> rfl)) | (simp [ap_, ao_]; exact (by intro l; cases l <;> rfl : ∀ l : List UInt8, l.isEmpty = !(l != [])) _) | (simp [*, ap_, ao_] <;> rfl), bz HB.out⟩
             rw [if_pos c81] at H
             have c81b0 : decide (x25_4 < (t129.length : Int)) = true := decide_eq_true c81
             clear c81
             by_cases c82 : 0 ≤ x25_4
             rotate_left
             ·rw [if_neg c82] at H
              exact absurd H (by simp)
             rw [if_pos c82] at H
             have c82b0 : decide (0 ≤ x25_4) = true := decide_eq_true c82
             clear c82
             by_cases c83 : (rd t129 x25_4) < 1
             rotate_left
             ·rw [if_neg c83] at H
              have c83b0 : decide ((rd t129 x25_4) < 1) = false := decide_eq_false c83
              clear c83
              by_cases c85 : (rd t129 x25_4) ≥ (wrap64 ((t102.length : Int) + 1))
              rotate_left
              ·rw [if_neg c85] at H
               have c85b0 : decide ((wrap64 ((t102.length : Int) + 1)) ≤ (rd t129 x25_4)) = false := decide_eq_false c85
               clear c85
               by_cases c87 : x25_4 > 0
               rotate_left
               ·rw [if_neg c87] at H
                have c87b0 : decide (0 < x25_4) = false := decide_eq_false c87
                clear c87
                have H' := Aside0.mk H
                clear H
                obtain ⟨Ao94, co94, eo94⟩ := Kd.bo_ HO_18.out
                subst eo94
                have p148 : 0 ≤ (x25_4 : Int) := of_decide_eq_true (by assumption)
                have q148 : x25_4 < (t129.length : Int) := of_decide_eq_true (by assumption)
                obtain ⟨ad148, e148, hx148_0⟩ := Kd.cu_ (Kd.aj_ HO_18.out).2.2 x25_4 p148 q148
                cases e148
                replace p148 := eq_true p148
                replace q148 := eq_true q148
                have p149 : 0 ≤ (x25_4 : Int) := of_decide_eq_true (by assumption)
                have q149 : x25_4 < (t129.length : Int) := of_decide_eq_true (by assumption)
                obtain ⟨ad149, e149, hx149_0⟩ := Kd.cu_ (Kd.aj_ HO_18.out).2.2 x25_4 p149 q149
                obtain rfl : ad148 = ad149 := (by injection e149)
                replace p149 := eq_true p149
                replace q149 := eq_true q149
                go_wp2
                repeat (go_quiet (fail); try go_wp2)
                go_roundg k4
                case measure => have := HJ10.out; have := HJ30.out; have := HJ69.out; have := HK4.out; omega
                case rel => exact ⟨(wrap64 (x25_4 + 1)), (by first | rfl | (simp; done) | (simp [*]; done)), H', ⟨by have := HJ10.out; have := HJ30.out; have := HJ69.out; have := HK4.out; omega⟩, ⟨sz HO_13.out⟩, ⟨rz HO_18.out⟩, ⟨bz HB.out⟩⟩
               rw [if_pos c87] at H
               have c87b0 : decide (0 < x25_4) = true := decide_eq_true c87
               clear c87
               obtain ⟨ji88, hji88⟩ : ∃ j_ : Int, (wrap64 (x25_4 - 1)) = j_ := ⟨_, rfl⟩
               replace H : (if 0 ≤ (ji88) then (if (ji88) < (t129.length : Int) then (if (rd t129 x25_4) ≥ (rd t129 (ji88)) then (some false) else (ae_.l0 k4 t121 (wrap64 ((t102.length : Int) + 1)) t129 (wrap64 (x25_4 + 1)))) else (none)) else (none)) = some r := by first | (rw [hji88] at H; exact H) | (simp only [hji88] at H ⊢; exact H)
               have hji88w : (IntKind.i64.wrap (x25_4 - 1)) = ji88 := (i64_w _).trans hji88
               by_cases c89 : 0 ≤ (ji88)
               rotate_left
               ·rw [if_neg c89] at H
                exact absurd H (by simp)
               rw [if_pos c89] at H
               have c89b0 : decide (0 ≤ (ji88)) = true := decide_eq_true c89
               clear c89
               by_cases c90 : (ji88) < (t129.length : Int)
               rotate_left
               ·rw [if_neg c90] at H
                exact absurd H (by simp)
               rw [if_pos c90] at H
               have c90b0 : decide ((ji88) < (t129.length : Int)) = true := decide_eq_true c90
               clear c90
               by_cases c91 : (rd t129 x25_4) ≥ (rd t129 (ji88))
               rotate_left
               ·rw [if_neg c91] at H
                have c91b0 : decide ((rd t129 (ji88)) ≤ (rd t129 x25_4)) = false := decide_eq_false c91
                clear c91
                have H' := Aside0.mk H
                clear H
                obtain ⟨Ao93, co93, eo93⟩ := Kd.bo_ HO_18.out
                subst eo93
                have p148 : 0 ≤ (x25_4 : Int) := of_decide_eq_true (by assumption)
                have q148 : x25_4 < (t129.length : Int) := of_decide_eq_true (by assumption)
                obtain ⟨ad148, e148, hx148_0⟩ := Kd.cu_ (Kd.aj_ HO_18.out).2.2 x25_4 p148 q148
                cases e148
                replace p148 := eq_true p148
                replace q148 := eq_true q148
                have p149 : 0 ≤ (x25_4 : Int) := of_decide_eq_true (by assumption)
                have q149 : x25_4 < (t129.length : Int) := of_decide_eq_true (by assumption)
                obtain ⟨ad149, e149, hx149_0⟩ := Kd.cu_ (Kd.aj_ HO_18.out).2.2 x25_4 p149 q149
                obtain rfl : ad148 = ad149 := (by injection e149)
                replace p149 := eq_true p149
                replace q149 := eq_true q149
                have p150 : 0 ≤ (x25_4 : Int) := of_decide_eq_true (by assumption)
                have q150 : x25_4 < (t129.length : Int) := of_decide_eq_true (by assumption)
                obtain ⟨ad150, e150, hx150_0⟩ := Kd.cu_ (Kd.aj_ HO_18.out).2.2 x25_4 p150 q150
                obtain rfl : ad148 = ad150 := (by injection e150)
                replace p150 := eq_true p150
                replace q150 := eq_true q150
                have p151 : 0 ≤ ((ji88) : Int) := of_decide_eq_true (by assumption)
                have q151 : (ji88) < (t129.length : Int) := of_decide_eq_true (by assumption)
                obtain ⟨ad151, e151, hx151_0⟩ := Kd.cu_ (Kd.aj_ HO_18.out).2.2 (ji88) p151 q151
                obtain rfl : ad148 = ad151 := (by injection e151)
                replace p151 := eq_true p151
                replace q151 := eq_true q151
                go_wp2
                repeat (go_quiet (fail); try go_wp2)
                go_roundg k4
                case measure => have := HJ10.out; have := HJ30.out; have := HJ69.out; have := HK4.out; omega
                case rel => exact ⟨(wrap64 (x25_4 + 1)), (by first | rfl | (simp; done) | (simp [*]; done)), H', ⟨by have := HJ10.out; have := HJ30.out; have := HJ69.out; have := HK4.out; omega⟩, ⟨sz HO_13.out⟩, ⟨rz HO_18.out⟩, ⟨bz HB.out⟩⟩
               rw [if_pos c91] at H
               have c91b0 : decide ((rd t129 (ji88)) ≤ (rd t129 x25_4)) = true := decide_eq_true c91
               clear c91
               obtain rfl := Option.some.inj H
               obtain ⟨Ao92, co92, eo92⟩ := Kd.bo_ HO_18.out
               subst eo92
               have p148 : 0 ≤ (x25_4 : Int) := of_decide_eq_true (by assumption)
               have q148 : x25_4 < (t129.length : Int) := of_decide_eq_true (by assumption)
               obtain ⟨ad148, e148, hx148_0⟩ := Kd.cu_ (Kd.aj_ HO_18.out).2.2 x25_4 p148 q148
               cases e148
               replace p148 := eq_true p148
               replace q148 := eq_true q148
               have p149 : 0 ≤ (x25_4 : Int) := of_decide_eq_true (by assumption)
               have q149 : x25_4 < (t129.length : Int) := of_decide_eq_true (by assumption)
               obtain ⟨ad149, e149, hx149_0⟩ := Kd.cu_ (Kd.aj_ HO_18.out).2.2 x25_4 p149 q149
               obtain rfl : ad148 = ad149 := (by injection e149)
               replace p149 := eq_true p149
               replace q149 := eq_true q149
               have p150 : 0 ≤ (x25_4 : Int) := of_decide_eq_true (by assumption)
               have q150 : x25_4 < (t129.length : Int) := of_decide_eq_true (by assumption)
               obtain ⟨ad150, e150, hx150_0⟩ := Kd.cu_ (Kd.aj_ HO_18.out).2.2 x25_4 p150 q150
               obtain rfl : ad148 = ad150 := (by injection e150)
               replace p150 := eq_true p150
               replace q150 := eq_true q150
               have p151 : 0 ≤ ((ji88) : Int) := of_decide_eq_true (by assumption)
               have q151 : (ji88) < (t129.length : Int) := of_decide_eq_true (by assumption)
               obtain ⟨ad151, e151, hx151_0⟩ := Kd.cu_ (Kd.aj_ HO_18.out).2.2 (ji88) p151 q151
               obtain rfl : ad148 = ad151 := (by injection e151)
               replace p151 := eq_true p151
               replace q151 := eq_true q151
               go_wp2
               repeat (go_quiet (fail); try go_wp2)
               go_ret
               exact ⟨by first | rfl | (simp [ap_, ao_] <;> rfl) | (simp only [← hji67, ← hji88]; first | rfl | (simp [ap_, ao_] <;> rfl)) | (simp [*, ap_, ao_] <;> rfl), bz HB.out⟩
              rw [if_pos c85] at H
              have c85b0 : decide ((wrap64 ((t102.length : Int) + 1)) ≤ (rd t129 x25_4)) = true := decide_eq_true c85
              clear c85
              obtain rfl := Option.some.inj H
              obtain ⟨Ao86, co86, eo86⟩ := Kd.bo_ HO_18.out
              subst eo86
              have p148 : 0 ≤ (x25_4 : Int) := of_decide_eq_true (by assumption)
              have q148 : x25_4 < (t129.length : Int) := of_decide_eq_true (by assumption)
              obtain ⟨ad148, e148, hx148_0⟩ := Kd.cu_ (Kd.aj_ HO_18.out).2.2 x25_4 p148 q148
              cases e148
              replace p148 := eq_true p148
              replace q148 := eq_true q148
              have p149 : 0 ≤ (x25_4 : Int) := of_decide_eq_true (by assumption)
              have q149 : x25_4 < (t129.length : Int) := of_decide_eq_true (by assumption)
              obtain ⟨ad149, e149, hx149_0⟩ := Kd.cu_ (Kd.aj_ HO_18.out).2.2 x25_4 p149 q149
              obtain rfl : ad148 = ad149 := (by injection e149)
              replace p149 := eq_true p149
              replace q149 := eq_true q149
              go_wp2
              repeat (go_quiet (fail); try go_wp2)
              go_ret
              exact ⟨by first | rfl | (simp [ap_, ao_] <;> rfl) | (simp only [← hji67]; first | rfl | (simp [ap_, ao_] <;> rfl)) | (simp [*, ap_, ao_] <;> rfl), bz HB.out⟩
             rw [if_pos c83] at H
             have c83b0 : decide ((rd t129 x25_4) < 1) = true := decide_eq_true c83
             clear c83
             obtain rfl := Option.some.inj H
             obtain ⟨Ao84, co84, eo84⟩ := Kd.bo_ HO_18.out
             subst eo84
             have p148 : 0 ≤ (x25_4 : Int) := of_decide_eq_true (by assumption)
             have q148 : x25_4 < (t129.length : Int) := of_decide_eq_true (by assumption)
             obtain ⟨ad148, e148, hx148_0⟩ := Kd.cu_ (Kd.aj_ HO_18.out).2.2 x25_4 p148 q148
             cases e148
             replace p148 := eq_true p148
             replace q148 := eq_true q148
             go_wp2
             repeat (go_quiet (fail); try go_wp2)
             go_ret
             exact ⟨by first | rfl | (simp [ap_, ao_] <;> rfl) | (simp only [← hji67]; first | rfl | (simp [ap_, ao_] <;> rfl)) | (simp [*, ap_, ao_] <;> rfl), bz HB.out⟩
          subst c80
          have H1 : (some false) = some r := by rw [if_pos rfl] at H; exact H
          clear H
          have H := H1
          clear H1
          obtain rfl := Option.some.inj H
          go_wp2
          repeat (go_quiet (fail); try go_wp2)
          go_ret
          exact ⟨by first | rfl | (simp [ap_, ao_] <;> rfl) | (simp only [← hji67]; first | rfl | (simp [ap_, ao_] <;> rfl)) | (simp [*, ap_, ao_] <;> rfl), bz HB.out⟩
       subst c62
       have H1 : (some false) = some r := by rw [if_pos rfl] at H; exact H
       clear H
       have H := H1
       clear H1
       obtain rfl := Option.some.inj H
       go_wp2
       repeat (go_quiet (fail); try go_wp2)
       go_ret
       exact ⟨by first | rfl | (simp [*, ap_, ao_] <;> rfl), bz HB.out⟩
    subst c24
    have H1 : (some false) = some r := by rw [if_pos rfl] at H; exact H
    clear H
    have H := H1
    clear H1
    obtain rfl := Option.some.inj H
    go_wp2
    repeat (go_quiet (fail); try go_wp2)
    go_ret
    exact ⟨by first | rfl | (simp [*, ap_, ao_] <;> rfl), bz HB.out⟩
 subst c5
 have H1 : (some true) = some r := by rw [if_pos rfl] at H; exact H
 clear H
 have H := H1
 clear H1
 obtain rfl := Option.some.inj H
 go_wp2
 repeat (go_quiet (fail); try go_wp2)
 go_ret
 exact ⟨by first | rfl | (simp [*, ap_, ao_] <;> rfl), bz HB.out⟩
def ae_.Pure : Prop := ∀ (x0 : List Int) (x1 : List Int), (x0.length ≤ maxLen ∧ ∀ y0 ∈ x0, (Lit.int .u8 y0).wf = true) → (x1.length ≤ maxLen ∧ ∀ y0 ∈ x1, (Lit.int .u8 y0).wf = true) → ∃ k, ae_.f k x0 x1 = some true
end Go.Proofs.YtiheginanghhjaaDoor.Q
namespace Go.Proofs.YtiheginanghhjaaDoor.Q
open Go.RowKit Go.Proofs.YtiheginanghhjaaDoorW.PrintWords Go.Proofs.YtiheginanghhjaaDoorW.PrintLast Go.Proofs.YtiheginanghhjaaDoorW.PrintMore
theorem wr64 {x : Int} (h0 : -9223372036854775808 ≤ x) (h1 : x < 9223372036854775808) : wrap64 x = x := by unfold wrap64; omega
theorem wr64s (i : Nat) (h : (i : Int) < 9223372036854775807) : wrap64 ((i : Int) + 1) = ((i + 1 : Nat) : Int) := by rw [wr64 (by omega) (by omega)]; omega
theorem bf_ {α : Type} {g : Nat → Option α} {r : α} (h : Ev (fun k => g (k + 1)) r) : Ev g r := by
 obtain ⟨K, hK⟩ := h
 refine ⟨K + 1, fun k hk => ?_⟩
 obtain ⟨m, rfl⟩ : ∃ m, k = m + 1 := ⟨k - 1, by omega⟩
 exact hK m (by omega)
theorem Ev_t {α : Type} {c : Prop} [Decidable c] {f g : Nat → Option α} {r : α} (h : c) (k : Ev f r) : Ev (fun n => if c then f n else g n) r := by
 obtain ⟨K, hK⟩ := k
 exact ⟨K, fun n hn => (if_pos h).trans (hK n hn)⟩
theorem Ev_f {α : Type} {c : Prop} [Decidable c] {f g : Nat → Option α} {r : α} (h : ¬ c) (k : Ev g r) : Ev (fun n => if c then f n else g n) r := by
 obtain ⟨K, hK⟩ := k
 exact ⟨K, fun n hn => (if_neg h).trans (hK n hn)⟩
theorem Ev_b {α β : Type} {g : Nat → Option α} {f : Nat → α → Option β} {a : α} {r : β} (h : Ev g a) (k : Ev (fun n => f n a) r) : Ev (fun n => (g n).bind (fun x => f n x)) r := Ev.bind h k
theorem Ev_s {α β : Type} {a : α} {f : Nat → α → Option β} {r : β} (k : Ev (fun n => f n a) r) : Ev (fun n => (some a).bind (fun x => f n x)) r := k
theorem Ev_n {α : Type} {a r : α} (h : a = r) : Ev (fun _ => some a) r := ⟨0, fun _ _ => by rw [h]⟩
theorem Ev_c {α : Type} {o : Option α} {r : α} (h : o = some r) : Ev (fun _ => o) r := ⟨0, fun _ _ => h⟩
theorem Ev_at {α : Type} {g : Nat → Option α} {r r' : α} (h : Ev g r) (e : r = r') : Ev g r' := e ▸ h
theorem Ev_two {α β : Type} {g : Nat → Option α} {f : Nat → Option β} {a : α} {b : β} (h : Ev g a) (k : Ev f b) : ∃ K, ∀ n, K ≤ n → g n = some a ∧ f n = some b := by
 obtain ⟨K, hK⟩ := h
 obtain ⟨L, hL⟩ := k
 exact ⟨max K L, fun n hn => ⟨hK n (by omega), hL n (by omega)⟩⟩
theorem Ev_one {α : Type} {g : Nat → Option α} {a b : α} (h : Ev g a) (k : Ev g b) : a = b := by
 obtain ⟨K, hK⟩ := Ev_two h k
 have := hK K (Nat.le_refl _)
 have h2 := this.1.symm.trans this.2
 exact Option.some.inj h2
def cut (c s : Int) : Int := if s ≤ c then c - s else -1
theorem getD_in {α : Type} (l : List α) (z : α) (i : Nat) (h : i < l.length) : l.getD ((i : Int).toNat) z = l[i] := by simp [List.getD, h]
theorem getD_at {α : Type} (p q : List α) (z x : α) (i : Nat) (h : p.length = i) : (p ++ x :: q).getD ((i : Int).toNat) z = x := by subst h; simp [List.getD]
structure Ordr {κ : Type} (c : κ → κ → Int) : Prop where
 zero : ∀ a b, c a b = 0 ↔ a = b
 anti : ∀ a b, c a b < 0 ↔ 0 < c b a
 trans : ∀ a b d, c a b < 0 → c b d < 0 → c a d < 0
theorem dq_ : Ordr Go.Lib.compareBytes := by
 constructor
 ·intro a
  induction a with
  | nil => intro b; cases b <;> simp [Go.Lib.compareBytes]
  | cons x a ih =>
   intro b
   cases b with
   | nil => simp [Go.Lib.compareBytes]
   | cons y b =>
    simp only [Go.Lib.compareBytes]
    by_cases h1 : x < y
    rotate_left
    ·by_cases h2 : y < x
     rotate_left
     ·have : x = y := UInt8.le_antisymm (UInt8.not_lt.1 h2) (UInt8.not_lt.1 h1)
      subst this
      simp [h1, ih]
     have : x ≠ y := fun e => by subst e; exact absurd h2 (UInt8.lt_irrefl _)
     simp [h1, h2, this]
    have : x ≠ y := fun e => by subst e; exact absurd h1 (UInt8.lt_irrefl _)
    simp [h1, this]
 ·intro a
  induction a with
  | nil => intro b; cases b <;> simp [Go.Lib.compareBytes]
  | cons x a ih =>
   intro b
   cases b with
   | nil => simp [Go.Lib.compareBytes]
   | cons y b =>
    simp only [Go.Lib.compareBytes]
    by_cases h1 : x < y
    rotate_left
    ·by_cases h2 : y < x
     rotate_left
     ·simp [h1, h2, ih]
     simp [h1, h2]
    have h2 : ¬ y < x := fun h => absurd (UInt8.lt_trans h1 h) (UInt8.lt_irrefl _)
    simp [h1, h2]
 ·intro a
  induction a with
  | nil => intro b d; cases b <;> cases d <;> simp [Go.Lib.compareBytes]
  | cons x a ih =>
   intro b d
   cases b with
   | nil => simp [Go.Lib.compareBytes]
   | cons y b =>
    cases d with
    | nil => simp [Go.Lib.compareBytes]
    | cons z d =>
     simp only [Go.Lib.compareBytes]
     by_cases h1 : x < y
     rotate_left
     ·by_cases h1' : y < x
      ·simp [h1, h1']
      ·have : x = y := UInt8.le_antisymm (UInt8.not_lt.1 h1') (UInt8.not_lt.1 h1)
       subst this
       by_cases h2 : x < z
       rotate_left
       ·by_cases h3 : z < x
        rotate_left
        ·simpa [h1, h2, h3] using ih b d
        simp [h2, h3]
       simp [h2]
     by_cases h2 : y < z
     rotate_left
     ·by_cases h3 : z < y
      rotate_left
      ·have : y = z := UInt8.le_antisymm (UInt8.not_lt.1 h3) (UInt8.not_lt.1 h2)
       subst this
       simp [h1]
      simp [h1, h2, h3]
     simp [h1, h2, UInt8.lt_trans h1 h2]
theorem Ordr.step {κ : Type} {c : κ → κ → Int} (h : Ordr c) {x y t : κ} (h1 : c x y < 0) (h2 : 0 ≤ c x t) : 0 < c y t := by
 by_cases e : c x t = 0
 rotate_left
 ·have q : c t x < 0 := (h.anti t x).2 (by omega)
  exact (h.anti t y).1 (h.trans t x y q h1)
 have := (h.zero x t).1 e
 subst this
 exact (h.anti _ _).1 h1
def plc {α : Type} (c : α → Int) : List α → Nat
 | [] => 0
 | x :: l => if c x < 0 then plc c l + 1 else 0
def Rsg {α : Type} (c : α → Int) (l : List α) : Prop := ∀ (i j : Nat) (hi : i < j) (hj : j < l.length), 0 ≤ c l[i] → 0 < c l[j]
theorem plc_le {α : Type} (c : α → Int) : ∀ l, plc c l ≤ l.length
 | [] => by simp [plc]
 | x :: l => by have := plc_le c l; unfold plc; split <;> simp <;> omega
theorem plc_lt {α : Type} (c : α → Int) : ∀ l (i : Nat) (hi : i < l.length), i < plc c l → c l[i] < 0
 | [], i, hi, _ => by simp at hi
 | x :: l, i, hi, h => by
  unfold plc at h
  split at h
  ·rename_i hx
   cases i with
   | zero => exact hx
   | succ i => exact plc_lt c l i (by simpa using hi) (by omega)
  ·omega
theorem plc_at {α : Type} (c : α → Int) : ∀ l (h : plc c l < l.length), 0 ≤ c (l[plc c l]'h)
 | [], h => by simp [plc] at h
 | x :: l, h => by
  by_cases hx : c x < 0
  rotate_left
  ·have e : plc c (x :: l) = 0 := by rw [plc, if_neg hx]
   simp only [e, List.getElem_cons_zero]
   omega
  have e : plc c (x :: l) = plc c l + 1 := by rw [plc, if_pos hx]
  have h2 : plc c l < l.length := by rw [e] at h; simpa using h
  have := plc_at c l h2
  simpa only [e, List.getElem_cons_succ] using this
theorem Rsg.gt {α : Type} {c : α → Int} {l : List α} (h : Rsg c l) (i : Nat) (hi : i < l.length) (hp : plc c l < i) : 0 < c l[i] := h (plc c l) i hp hi (plc_at c l (by omega))
def fnd {α : Type} (c : α → Int) (l : List α) : Bool := if h : plc c l < l.length then decide (c (l[plc c l]'h) = 0) else false
theorem fnd_t {α : Type} {c : α → Int} {l : List α} (h : fnd c l = true) : ∃ hp : plc c l < l.length, c (l[plc c l]'hp) = 0 := by
 unfold fnd at h
 split at h
 ·rename_i hp; exact ⟨hp, by simpa using h⟩
 ·cases h
theorem fnd_f {α : Type} {c : α → Int} {l : List α} (hr : Rsg c l) (h : fnd c l = false) (i : Nat) (hi : i < l.length) : c l[i] ≠ 0 := by
 rcases Nat.lt_trichotomy i (plc c l) with g | g | g
 ·have := plc_lt c l i hi g; omega
 ·subst g
  unfold fnd at h
  rw [dif_pos hi] at h
  simpa using h
 ·have := hr.gt i hi g; omega
theorem rsg_of {α κ : Type} {c : κ → κ → Int} (ho : Ordr c) (key : α → κ) {l : List α} (h : ∀ (i : Nat) (hi : i + 1 < l.length), c (key (l[i]'(by omega))) (key l[i + 1]) < 0) (t : κ) : Rsg (fun x => c (key x) t) l := by
 have q : ∀ (d i : Nat) (hj : i + d + 1 < l.length), c (key (l[i]'(by omega))) (key l[i + d + 1]) < 0 := by
  intro d
  induction d with
  | zero => intro i hj; exact h i hj
  | succ d ih =>
   intro i hj
   exact ho.trans _ _ _ (ih i (by omega)) (h (i + d + 1) (by omega))
 intro i j hi hj h0
 have e : i + (j - i - 1) + 1 = j := by omega
 have := q (j - i - 1) i (by omega)
 simp only [e] at this
 exact ho.step this h0
theorem mid_ev (i j : Nat) (h : (i : Int) + j < 1000000000000) : wrap64 ((IntKind.u64.wrap (wrap64 ((i : Int) + j))) / 2) = (((i + j) / 2 : Nat) : Int) := by
 rw [wr64 (x := (i : Int) + j) (by omega) (by omega)]
 have : IntKind.u64.wrap ((i : Int) + j) = (i : Int) + j := by simp [IntKind.wrap, IntKind.bits, IntKind.signed]; omega
 rw [this, wr64 (by omega) (by omega)]
 omega
theorem ite_and (b c : Bool) : (if b = true then some c else some false) = some (b && c) := by cases b <;> rfl
theorem in_f (a b c : Int) : bY_.f a b c = some (decide (b ≤ a) && decide (a ≤ c)) := by unfold bY_.f; by_cases h : a ≥ b <;> simp [h]
theorem within_f (a b c : Int) : aF_.f a b c = some (decide (b ≤ a) && decide (a ≤ c)) := by unfold aF_.f; by_cases h : a ≥ b <;> simp [h]
theorem w64 {x : Int} (h0 : -9223372036854775808 ≤ x) (h1 : x < 9223372036854775808) : wrap64 x = x := by unfold wrap64; omega
theorem toList_len (x : ByteArray) : x.toList.length = x.size := by
 rw [Go.ByteArray.toList_eq x, Array.length_toList]; rfl
theorem name_round (k : Nat) (x : ByteArray) (i : Int) : aN_.l0 k x i = aK_.l0 k x i := by
 induction k generalizing i with
 | zero => rfl
 | succ k ih =>
  simp only [aN_.l0, aK_.l0, ih, cy_.f, di_.f]
  by_cases h1 : i < (x.size : Int)
  rotate_left
  ·rw [if_neg h1, if_neg h1]
  rw [if_pos h1, if_pos h1]
  by_cases h2 : 0 ≤ i
  rotate_left
  ·rw [if_neg h2, if_neg h2]
  rw [if_pos h2, if_pos h2]
  generalize bt x i = c
  by_cases h3 : c < 97
  rotate_left
  ·rw [if_neg h3, if_pos (show c ≥ 97 by omega)]
   by_cases h4 : c > 122
   rotate_left
   ·rw [if_neg h4]; simp [show c ≤ 122 by omega]
   simp [h4, show ¬ c < 48 by omega, show c > 57 by omega, show ¬ c ≤ 122 by omega, show ¬ c ≤ 57 by omega]
  rw [if_pos h3, if_neg (by omega)]
  by_cases h4 : c < 48
  rotate_left
  ·rw [if_neg h4, if_pos (by omega)]
   by_cases h5 : c > 57
   rotate_left
   ·rw [if_neg h5]; simp [show c ≤ 57 by omega]
   rw [if_pos h5]; simp [show ¬ c ≤ 57 by omega]
  rw [if_pos h4, if_neg (by omega)]; simp
theorem name_same (k : Nat) (x : ByteArray) : aN_.f k x = aK_.f k x := by
 have hj : ∀ b, aN_.j0 k x b = aK_.j0 k x b := by
  intro b
  cases k with
  | zero => rfl
  | succ k => simp only [aN_.j0, aK_.j0, name_round]
 unfold aN_.f aK_.f cy_.f
 simp only [hj]
 by_cases h0 : x.toList = []
 rotate_left
 ·have : x.size ≠ 0 := by
   intro e; apply h0; apply List.eq_nil_of_length_eq_zero; rw [toList_len, e]
  rw [if_neg h0, if_neg (show ¬ (x.size : Int) < 1 by omega)]
  by_cases h1 : (x.size : Int) > 10
  rotate_left
  ·rw [if_neg h1, if_neg h1, if_pos (show 0 < (x.size : Int) by omega), if_pos (show 0 < (x.size : Int) by omega)]
   generalize bt x 0 = c
   by_cases h3 : c < 97
   rotate_left
   ·rw [if_neg h3, if_pos (show c ≥ 97 by omega)]
    simp only [Option.bind_some]
    congr 1
    by_cases h4 : c > 122
    rotate_left
    ·simp [h4, show c ≤ 122 by omega]
    simp [h4, show ¬ c ≤ 122 by omega]
   rw [if_pos h3, if_neg (show ¬ c ≥ 97 by omega)]; rfl
  rw [if_pos h1, if_pos h1]
 have : x.size = 0 := by rw [← toList_len, h0]; rfl
 rw [if_pos h0, if_pos (by omega)]
theorem name_ev (x : ByteArray) : ∃ b, ∀ k, 12 < k → aK_.f k x = some b := by
 have go : ∀ (d : Nat) (i : Int), 0 ≤ i → i + d = x.size → (x.size : Int) ≤ 10 → ∃ b, ∀ k, d < k → aK_.l0 k x i = some b := by
  intro d
  induction d with
  | zero =>
   intro i h0 h1 _
   refine ⟨true, fun k hk => ?_⟩
   obtain ⟨k, rfl⟩ : ∃ m, k = m + 1 := ⟨k - 1, by omega⟩
   simp only [aK_.l0]
   rw [if_neg (by omega)]
  | succ d ih =>
   intro i h0 h1 h2
   obtain ⟨b, hb⟩ := ih (i + 1) (by omega) (by omega) h2
   by_cases h3 : bt x i < 97
   rotate_left
   ·by_cases h4 : bt x i > 122
    rotate_left
    ·refine ⟨b, fun k hk => ?_⟩
     obtain ⟨k, rfl⟩ : ∃ m, k = m + 1 := ⟨k - 1, by omega⟩
     simp only [aK_.l0]
     rw [if_pos (by omega), if_pos h0, if_neg h3, if_neg h4, w64 (by omega) (by omega), hb k (by omega)]
    refine ⟨false, fun k hk => ?_⟩
    obtain ⟨k, rfl⟩ : ∃ m, k = m + 1 := ⟨k - 1, by omega⟩
    simp only [aK_.l0]
    rw [if_pos (by omega), if_pos h0, if_neg h3, if_pos h4, if_neg (by omega), if_pos (by omega)]
   by_cases h4 : bt x i < 48
   rotate_left
   ·by_cases h5 : bt x i > 57
    rotate_left
    ·refine ⟨b, fun k hk => ?_⟩
     obtain ⟨k, rfl⟩ : ∃ m, k = m + 1 := ⟨k - 1, by omega⟩
     simp only [aK_.l0]
     rw [if_pos (by omega), if_pos h0, if_pos h3, if_neg h4, if_neg h5, w64 (by omega) (by omega), hb k (by omega)]
    refine ⟨false, fun k hk => ?_⟩
    obtain ⟨k, rfl⟩ : ∃ m, k = m + 1 := ⟨k - 1, by omega⟩
    simp only [aK_.l0]
    rw [if_pos (by omega), if_pos h0, if_pos h3, if_neg h4, if_pos h5]
   refine ⟨false, fun k hk => ?_⟩
   obtain ⟨k, rfl⟩ : ∃ m, k = m + 1 := ⟨k - 1, by omega⟩
   simp only [aK_.l0]
   rw [if_pos (by omega), if_pos h0, if_pos h3, if_pos h4]
 have hj : ∀ (b : Bool), (b = false → (x.size : Int) ≤ 10) → ∃ c, ∀ k, 12 < k → aK_.j0 k x b = some c := by
  intro b hs
  cases b with
  | true =>
   refine ⟨false, fun k hk => ?_⟩
   obtain ⟨k, rfl⟩ : ∃ m, k = m + 1 := ⟨k - 1, by omega⟩
   simp only [aK_.j0, if_true]
  | false =>
   obtain ⟨c, hc⟩ := go x.size 0 (by omega) (by omega) (hs rfl)
   have := hs rfl
   refine ⟨c, fun k hk => ?_⟩
   obtain ⟨k, rfl⟩ : ∃ m, k = m + 1 := ⟨k - 1, by omega⟩
   simp only [aK_.j0]
   rw [if_neg (by decide), hc k (by omega)]
 unfold aK_.f
 by_cases h1 : (x.size : Int) < 1
 rotate_left
 ·simp only [if_neg h1]
  by_cases h2 : (x.size : Int) > 10
  rotate_left
  ·simp only [if_neg h2, if_pos (show 0 < (x.size : Int) by omega)]
   by_cases h3 : bt x 0 < 97
   rotate_left
   ·simp only [if_neg h3]; exact hj _ (fun _ => by omega)
   simp only [if_pos h3]; exact hj true (by intro h; cases h)
  simp only [if_pos h2]; exact hj true (by intro h; cases h)
 simp only [if_pos h1]; exact hj true (by intro h; cases h)
def spi (l : List UInt8) : Int := if l = [97, 115, 104] then 0 else if l = [98, 101, 101, 99, 104] then 1 else if l = [98, 105, 114, 99, 104] then 2 else if l = [99, 104, 101, 114, 114, 121] then 3 else if l = [101, 98, 111, 110, 121] then 4 else if l = [104, 111, 108, 108, 121] then 5 else if l = [109, 97, 112, 108, 101] then 6 else if l = [111, 97, 107] then 7 else if l = [114, 111, 115, 101, 119, 111, 111, 100] then 8 else if l = [119, 97, 108, 110, 117, 116] then 9 else -1
def shades : List Int := [20, 35, 15, 50, 95, 5, 10, 40, 80, 70]
theorem sp_cases (l : List UInt8) : (l = [97, 115, 104]) ∨ (l = [98, 101, 101, 99, 104]) ∨ (l = [98, 105, 114, 99, 104]) ∨ (l = [99, 104, 101, 114, 114, 121]) ∨ (l = [101, 98, 111, 110, 121]) ∨ (l = [104, 111, 108, 108, 121]) ∨ (l = [109, 97, 112, 108, 101]) ∨ (l = [111, 97, 107]) ∨ (l = [114, 111, 115, 101, 119, 111, 111, 100]) ∨ (l = [119, 97, 108, 110, 117, 116]) ∨ (¬ l = [97, 115, 104] ∧ ¬ l = [98, 101, 101, 99, 104] ∧ ¬ l = [98, 105, 114, 99, 104] ∧ ¬ l = [99, 104, 101, 114, 114, 121] ∧ ¬ l = [101, 98, 111, 110, 121] ∧ ¬ l = [104, 111, 108, 108, 121] ∧ ¬ l = [109, 97, 112, 108, 101] ∧ ¬ l = [111, 97, 107] ∧ ¬ l = [114, 111, 115, 101, 119, 111, 111, 100] ∧ ¬ l = [119, 97, 108, 110, 117, 116]) := by
 by_cases h0 : l = [97, 115, 104]
 ·exact .inl h0
 by_cases h1 : l = [98, 101, 101, 99, 104]
 ·exact .inr ((.inl h1))
 by_cases h2 : l = [98, 105, 114, 99, 104]
 ·exact .inr (.inr ((.inl h2)))
 by_cases h3 : l = [99, 104, 101, 114, 114, 121]
 ·exact .inr (.inr (.inr ((.inl h3))))
 by_cases h4 : l = [101, 98, 111, 110, 121]
 ·exact .inr (.inr (.inr (.inr ((.inl h4)))))
 by_cases h5 : l = [104, 111, 108, 108, 121]
 ·exact .inr (.inr (.inr (.inr (.inr ((.inl h5))))))
 by_cases h6 : l = [109, 97, 112, 108, 101]
 ·exact .inr (.inr (.inr (.inr (.inr (.inr ((.inl h6)))))))
 by_cases h7 : l = [111, 97, 107]
 ·exact .inr (.inr (.inr (.inr (.inr (.inr (.inr ((.inl h7))))))))
 by_cases h8 : l = [114, 111, 115, 101, 119, 111, 111, 100]
 ·exact .inr (.inr (.inr (.inr (.inr (.inr (.inr (.inr ((.inl h8)))))))))
 by_cases h9 : l = [119, 97, 108, 110, 117, 116]
 ·exact .inr (.inr (.inr (.inr (.inr (.inr (.inr (.inr (.inr ((.inl h9))))))))))
 exact .inr (.inr (.inr (.inr (.inr (.inr (.inr (.inr (.inr (.inr (⟨h0, h1, h2, h3, h4, h5, h6, h7, h8, h9⟩))))))))))
theorem l07Find_f (a : ByteArray) (k : Nat) (hk : 12 ≤ k) : bZ_.f k a = some (spi a.toList) := by
 obtain ⟨k, rfl⟩ : ∃ m, k = m + 12 := ⟨k - 12, by omega⟩
 unfold bZ_.f ck_.f spi
 simp only [Option.bind_some, bZ_.l0, wrap64, rdOf]
 simp (decide := true)
 generalize a.toList = l
 simp only [eq_comm (b := l)]
 rcases sp_cases l with h | h | h | h | h | h | h | h | h | h | h
 all_goals first | (subst h; decide) | (obtain ⟨h0, h1, h2, h3, h4, h5, h6, h7, h8, h9⟩ := h; simp only [h0, h1, h2, h3, h4, h5, h6, h7, h8, h9, if_false])
def vVen (l : List UInt8) (sh gr : Int) : Bool := decide (0 ≤ spi l) && ((decide (0 ≤ sh) && decide (sh ≤ 100)) && ((decide (rd shades (spi l) - 15 ≤ sh) && decide (sh ≤ rd shades (spi l) + 15)) && (decide (0 ≤ gr) && decide (gr ≤ 179))))
theorem spi_range (l : List UInt8) : -1 ≤ spi l ∧ spi l ≤ 9 := by
 rcases sp_cases l with h | h | h | h | h | h | h | h | h | h | h
 all_goals first | (subst h; decide) | (obtain ⟨h0, h1, h2, h3, h4, h5, h6, h7, h8, h9⟩ := h; unfold spi; simp only [h0, h1, h2, h3, h4, h5, h6, h7, h8, h9, if_false]; decide)
theorem shade_of (i : Int) (h0 : 0 ≤ i) (h1 : i ≤ 9) : ∃ t, cB_.f = some t ∧ i < t.length ∧ 0 < (rd_L2 t i).length ∧ rd (rd_L2 t i) 0 = rd shades i ∧ 0 ≤ rd shades i ∧ rd shades i ≤ 100 := by
 refine ⟨_, rfl, ?_⟩
 obtain ⟨n, rfl⟩ := Int.eq_ofNat_of_zero_le h0
 have hn : n ≤ 9 := by omega
 match n, hn with
 | 0, _ => decide
 | 1, _ => decide
 | 2, _ => decide
 | 3, _ => decide
 | 4, _ => decide
 | 5, _ => decide
 | 6, _ => decide
 | 7, _ => decide
 | 8, _ => decide
 | 9, _ => decide
theorem iShade_f (a : ByteArray) : bT_.f a = some (if 0 ≤ spi a.toList then (rd shades (spi a.toList), true) else (0, false)) := by
 unfold bT_.f cO_.f spi
 generalize a.toList = l
 rcases sp_cases l with h | h | h | h | h | h | h | h | h | h | h
 all_goals first | (subst h; decide) | (obtain ⟨h0, h1, h2, h3, h4, h5, h6, h7, h8, h9⟩ := h; simp only [h0, h1, h2, h3, h4, h5, h6, h7, h8, h9, if_false]; decide)
theorem l07Ok_f (x : S57) (k : Nat) (hk : 12 ≤ k) : bX_.f k [x] = some (vVen x.f0.toList x.f1 x.f2) := by
 obtain ⟨k, rfl⟩ : ∃ m, k = m + 1 := ⟨k - 1, by omega⟩
 have hrd : dp_ [x] 0 = x := rfl
 unfold bX_.f vVen
 rw [if_pos (by simp), hrd, l07Find_f _ _ hk]
 simp only [Option.bind_some]
 have hr := spi_range x.f0.toList
 by_cases h : spi x.f0.toList < 0
 rotate_left
 ·rw [if_neg h, in_f, show decide (0 ≤ spi x.f0.toList) = true from decide_eq_true (by omega)]
  obtain ⟨t, ht, h1, h2, h3, h4, h5⟩ := shade_of (spi x.f0.toList) (by omega) (by omega)
  simp only [Option.bind_some, bX_.j0]
  cases hs : (decide (0 ≤ x.f1) && decide (x.f1 ≤ 100))
  ·simp
  ·rw [if_neg (by simp), ht]
   simp only [Option.bind_some]
   rw [if_pos (by omega), if_pos h1, if_pos (by omega), if_pos (by simp), hrd, h3, in_f, w64 (by omega) (by omega), w64 (by omega) (by omega)]
   simp only [Option.bind_some, cZ_.f, in_f]
   rw [ite_and]
   simp
 rw [if_pos h]
 simp only [bX_.j0, if_true]
 rw [show decide (0 ≤ spi x.f0.toList) = false from decide_eq_false (by omega)]
 rfl
theorem iValidVeneer_f (a : ByteArray) (sh gr : Int) : ct_.f a sh gr = some (vVen a.toList sh gr) := by
 unfold ct_.f vVen
 rw [iShade_f]
 simp only [Option.bind_some]
 have hr := spi_range a.toList
 by_cases h : 0 ≤ spi a.toList
 rotate_left
 ·rw [if_neg h, show decide (0 ≤ spi a.toList) = false from decide_eq_false h]
  simp
 rw [if_pos h]
 obtain ⟨t, ht, h1, h2, h3, h4, h5⟩ := shade_of (spi a.toList) h (by omega)
 simp only [if_true, within_f, Option.bind_some]
 rw [show decide (0 ≤ spi a.toList) = true from decide_eq_true h]
 cases hs : (decide (0 ≤ sh) && decide (sh ≤ 100))
 ·simp
 ·have hs' : 0 ≤ sh ∧ sh ≤ 100 := by simpa using hs
  rw [w64 (by omega) (by omega)]
  simp only [if_true, ite_and, Bool.true_and]
  congr 2
  rw [Bool.eq_iff_iff]
  simp only [Bool.and_eq_true, decide_eq_true_eq]
  omega
theorem bL_ (l : List S59) (i : Nat) (h : i < l.length) : aa_ l (i : Int) = l[i] := by unfold aa_; exact getD_in l _ i h
theorem cg_ (l : List S48) (i : Nat) (h : i < l.length) : ar_ l (i : Int) = l[i] := by unfold ar_; exact getD_in l _ i h
abbrev Ent := S59
abbrev Ver := S48
def fcE (x : Ent) : List UInt8 := x.f0.data.toList
theorem less_iff : ∀ l m : List UInt8, Op.bytesLess l m = true ↔ Go.Lib.compareBytes l m < 0
 | [], [] => by simp [Go.Lib.compareBytes, Op.bytesLess]
 | [], _ :: _ => by simp [Go.Lib.compareBytes, Op.bytesLess]
 | _ :: _, [] => by simp [Go.Lib.compareBytes, Op.bytesLess]
 | a :: x, b :: y => by
  have ih := less_iff x y
  unfold Go.Lib.compareBytes Op.bytesLess
  by_cases hab : a < b
  rotate_left
  ·by_cases hba : b < a
   rotate_left
   ·have he : a = b := UInt8.le_antisymm (UInt8.not_lt.1 hba) (UInt8.not_lt.1 hab)
    subst he
    simp only [hab, if_false]
    simpa using ih
   have hne : a ≠ b := fun e => by subst e; exact absurd hba (UInt8.lt_irrefl _)
   simp [hab, hba, hne]
  have hne : a ≠ b := fun e => by subst e; exact absurd hab (UInt8.lt_irrefl _)
  simp [hab, hne]
theorem nameE_ev (x : ByteArray) : ∃ b, Ev (fun k => aK_.f k x) b ∧ Ev (fun k => aN_.f k x) b := by
 obtain ⟨b, hb⟩ := name_ev x
 exact ⟨b, ⟨13, fun k hk => hb k (by omega)⟩, ⟨13, fun k hk => (name_same k x).trans (hb k (by omega))⟩⟩
theorem entry_ev (x : Ent) : ∃ b, Ev (fun k => ci_.f k [x]) b ∧ Ev (fun k => bR_.f k x.f0 x.f1.f0 x.f1.f1 x.f1.f2) b ∧ (b = true → vVen x.f1.f0.toList x.f1.f1 x.f1.f2 = true) := by
 obtain ⟨n, h1, h2⟩ := nameE_ev x.f0
 have v1 : Ev (fun k => bX_.f k [x.f1]) (vVen x.f1.f0.toList x.f1.f1 x.f1.f2) := ⟨12, fun k hk => l07Ok_f x.f1 k hk⟩
 have v2 := iValidVeneer_f x.f1.f0 x.f1.f1 x.f1.f2
 have r0 : aa_ [x] 0 = x := rfl
 cases n with
 | false =>
  refine ⟨false, ?_, ?_, fun h => by cases h⟩
  ·simp only [ci_.f, r0]; exact Ev_t (by simp) (Ev_b h2 (Ev_f (by decide) (Ev_n rfl)))
  ·simp only [bR_.f]; exact Ev_b h1 (Ev_f (by decide) (Ev_n rfl))
 | true =>
  refine ⟨vVen x.f1.f0.toList x.f1.f1 x.f1.f2, ?_, ?_, fun h => h⟩
  ·simp only [ci_.f, r0]; exact Ev_t (by simp) (Ev_b h2 (Ev_t rfl (Ev_b v1 (Ev_n rfl))))
  ·simp only [bR_.f]; exact Ev_b h1 (Ev_t rfl (Ev_b (Ev_c v2) (Ev_n rfl)))
def Sta (m : List Ent) : Prop := m.length ≤ 24 ∧ (∀ (i : Nat) (hi : i + 1 < m.length), Go.Lib.compareBytes (fcE (m[i]'(by omega))) (fcE m[i + 1]) < 0) ∧ ∀ y ∈ m, vVen y.f1.f0.toList y.f1.f1 y.f1.f2 = true
theorem state_ev (m : List Ent) (hl : (m.length : Int) ≤ 1048576) : ∃ b, Ev (fun k => aw_.f k m) b ∧ Ev (fun k => an_.f k m) b ∧ (b = true → Sta m) := by
 have go : ∀ (d i : Nat), i + d = m.length → ∃ b, Ev (fun k => aw_.l0 k m i) b ∧ Ev (fun k => an_.l0 k m m (m.length : Int) i) b ∧ (b = true → m.length ≤ 24 ∧ (∀ (j : Nat), i ≤ j → 0 < j → ∀ (hj : j < m.length), Go.Lib.compareBytes (fcE (m[j - 1]'(by omega))) (fcE m[j]) < 0) ∧ ∀ (j : Nat), i ≤ j → ∀ (hj : j < m.length), vVen m[j].f1.f0.toList m[j].f1.f1 m[j].f1.f2 = true) := by
  intro d
  induction d with
  | zero =>
   intro i h1
   refine ⟨decide ((m.length : Int) ≤ 24), bf_ ?_, bf_ ?_, fun h => ⟨by have := of_decide_eq_true h; omega, fun j h2 _ hj => by omega, fun j h2 hj => by omega⟩⟩
   ·simp only [aw_.l0]; exact Ev_f (by omega) (Ev_n rfl)
   ·simp only [an_.l0]; exact Ev_f (by omega) (Ev_n rfl)
  | succ d ih =>
   intro i h1
   have hi : i < m.length := by omega
   obtain ⟨v, v1, v2, v3⟩ := entry_ev m[i]
   cases v with
   | false =>
    refine ⟨false, bf_ ?_, bf_ ?_, fun h => by cases h⟩
    ·simp only [aw_.l0]
     refine Ev_t (by omega) (Ev_t (by omega) ?_)
     rw [bL_ m i hi]
     exact Ev_b v1 (Ev_f (by decide) (Ev_n rfl))
    ·simp only [an_.l0]
     refine Ev_t (by omega) (Ev_t (by omega) (Ev_t (by omega) ?_))
     rw [bL_ m i hi]
     exact Ev_b v2 (Ev_f (by decide) (Ev_n rfl))
   | true =>
    obtain ⟨b, b1, b2, b3⟩ := ih (i + 1) (by omega)
    by_cases h0 : i = 0
    rotate_left
    ·have e : wrap64 ((i : Int) - 1) = ((i - 1 : Nat) : Int) := by rw [wr64 (by omega) (by omega)]; omega
     by_cases hc : Op.bytesLess ((m[i - 1]'(by omega)).f0.toList) (m[i].f0.toList) = true
     rotate_left
     ·refine ⟨false, bf_ ?_, bf_ ?_, fun h => by cases h⟩
      ·simp only [aw_.l0]
       refine Ev_t (by omega) (Ev_t (by omega) ?_)
       rw [e, bL_ m i hi, bL_ m (i - 1) (by omega), wr64s i (by omega)]
       exact Ev_b v1 (Ev_t rfl (Ev_t (by omega) (Ev_t (by omega) (Ev_t (by omega) (Ev_f hc (Ev_n rfl))))))
      ·simp only [an_.l0]
       refine Ev_t (by omega) (Ev_t (by omega) (Ev_t (by omega) ?_))
       rw [e, bL_ m i hi, bL_ m (i - 1) (by omega), wr64s i (by omega)]
       exact Ev_b v2 (Ev_t rfl (Ev_t (by omega) (Ev_t (by omega) (Ev_t (by omega) (Ev_f hc (Ev_n rfl))))))
     refine ⟨b, bf_ ?_, bf_ ?_, fun h => ?_⟩
     ·simp only [aw_.l0]
      refine Ev_t (by omega) (Ev_t (by omega) ?_)
      rw [e, bL_ m i hi, bL_ m (i - 1) (by omega), wr64s i (by omega)]
      exact Ev_b v1 (Ev_t rfl (Ev_t (by omega) (Ev_t (by omega) (Ev_t (by omega) (Ev_t hc b1)))))
     ·simp only [an_.l0]
      refine Ev_t (by omega) (Ev_t (by omega) (Ev_t (by omega) ?_))
      rw [e, bL_ m i hi, bL_ m (i - 1) (by omega), wr64s i (by omega)]
      exact Ev_b v2 (Ev_t rfl (Ev_t (by omega) (Ev_t (by omega) (Ev_t (by omega) (Ev_t hc b2)))))
     ·obtain ⟨c1, c2, c3⟩ := b3 h
      refine ⟨c1, fun j h2 h3 hj => ?_, fun j h2 hj => ?_⟩
      ·rcases Nat.lt_or_eq_of_le h2 with g | g
       ·exact c2 j (by omega) h3 hj
       ·subst g
        have := (less_iff _ _).1 hc
        simpa only [fcE, Go.ByteArray.toList_eq] using this
      ·rcases Nat.lt_or_eq_of_le h2 with g | g
       ·exact c3 j (by omega) hj
       ·subst g; exact v3 rfl
    refine ⟨b, bf_ ?_, bf_ ?_, fun h => ?_⟩
    ·simp only [aw_.l0]
     refine Ev_t (by omega) (Ev_t (by omega) ?_)
     rw [bL_ m i hi, wr64s i (by omega)]
     exact Ev_b v1 (Ev_t rfl (Ev_f (by omega) b1))
    ·simp only [an_.l0]
     refine Ev_t (by omega) (Ev_t (by omega) (Ev_t (by omega) ?_))
     rw [bL_ m i hi, wr64s i (by omega)]
     exact Ev_b v2 (Ev_t rfl (Ev_f (by omega) b2))
    ·obtain ⟨c1, c2, c3⟩ := b3 h
     refine ⟨c1, fun j h2 h3 hj => c2 j (by omega) h3 hj, fun j h2 hj => ?_⟩
     rcases Nat.lt_or_eq_of_le h2 with g | g
     ·exact c3 j (by omega) hj
     ·subst g; exact v3 rfl
 obtain ⟨b, b1, b2, b3⟩ := go m.length 0 (by omega)
 refine ⟨b, by simp only [aw_.f]; exact b1, by simp only [an_.f]; exact b2, fun h => ?_⟩
 obtain ⟨c1, c2, c3⟩ := b3 h
 refine ⟨c1, fun i hi => c2 (i + 1) (by omega) (by omega) hi, fun y hy => ?_⟩
 obtain ⟨j, hj, rfl⟩ := List.mem_iff_getElem.1 hy
 exact c3 j (by omega) hj
theorem note_ev (x : ByteArray) (hx : (x.size : Int) ≤ 1048576) : ∃ b, Ev (fun k => bb_.f k x) b ∧ Ev (fun k => aQ_.f k x) b := by
 have go : ∀ (d i : Nat), i + d = x.size → ∃ b, Ev (fun k => bb_.l0 k x i) b ∧ Ev (fun k => aQ_.l0 k x i) b := by
  intro d
  induction d with
  | zero =>
   intro i h1
   refine ⟨decide ((x.size : Int) ≤ 20), bf_ ?_, bf_ ?_⟩
   ·simp only [bb_.l0]; exact Ev_f (by omega) (Ev_n rfl)
   ·simp only [aQ_.l0]; exact Ev_f (by omega) (Ev_n rfl)
  | succ d ih =>
   intro i h1
   by_cases c1 : bt x i < 32
   rotate_left
   ·by_cases c2 : bt x i > 126
    rotate_left
    ·obtain ⟨b, b1, b2⟩ := ih (i + 1) (by omega)
     refine ⟨b, bf_ ?_, bf_ ?_⟩
     ·simp only [bb_.l0]; rw [wr64s i (by omega)]; exact Ev_t (by omega) (Ev_t (by omega) (Ev_f c1 (Ev_f c2 b1)))
     ·simp only [aQ_.l0]; rw [wr64s i (by omega)]; exact Ev_t (by omega) (Ev_t (by omega) (Ev_f c1 (Ev_f c2 b2)))
    refine ⟨false, bf_ ?_, bf_ ?_⟩
    ·simp only [bb_.l0]; exact Ev_t (by omega) (Ev_t (by omega) (Ev_f c1 (Ev_t c2 (Ev_n rfl))))
    ·simp only [aQ_.l0]; exact Ev_t (by omega) (Ev_t (by omega) (Ev_f c1 (Ev_t c2 (Ev_n rfl))))
   refine ⟨false, bf_ ?_, bf_ ?_⟩
   ·simp only [bb_.l0]; exact Ev_t (by omega) (Ev_t (by omega) (Ev_t c1 (Ev_n rfl)))
   ·simp only [aQ_.l0]; exact Ev_t (by omega) (Ev_t (by omega) (Ev_t c1 (Ev_n rfl)))
 obtain ⟨b, b1, b2⟩ := go x.size 0 (by omega)
 exact ⟨b, by simp only [bb_.f]; exact b1, by simp only [aQ_.f]; exact b2⟩
def Prj (m : List Ver) : Prop := m.length ≤ 16 ∧ ∀ (i : Nat) (hi : i < m.length), m[i].f0 = (i : Int) + 1 ∧ 0 ≤ m[i].f1 ∧ m[i].f1 ≤ i ∧ Sta m[i].f3
theorem project_ev (m : List Ver) (hl : (m.length : Int) ≤ 1048576) (hn : ∀ y ∈ m, (y.f2.size : Int) ≤ 1048576 ∧ (y.f3.length : Int) ≤ 1048576) : ∃ b, Ev (fun k => bC_.f k m) b ∧ Ev (fun k => aD_.f k m) b ∧ (b = true → Prj m) := by
 have go : ∀ (d i : Nat), i + d = m.length → ∃ b, Ev (fun k => bC_.l0 k m i) b ∧ Ev (fun k => aD_.l0 k m m (m.length : Int) i) b ∧ (b = true → m.length ≤ 16 ∧ ∀ (j : Nat), i ≤ j → ∀ (hj : j < m.length), m[j].f0 = (j : Int) + 1 ∧ 0 ≤ m[j].f1 ∧ m[j].f1 ≤ j ∧ Sta m[j].f3) := by
  intro d
  induction d with
  | zero =>
   intro i h1
   refine ⟨decide ((m.length : Int) ≤ 16), bf_ ?_, bf_ ?_, fun h => ⟨by have := of_decide_eq_true h; omega, fun j h2 hj => by omega⟩⟩
   ·simp only [bC_.l0]; exact Ev_f (by omega) (Ev_n rfl)
   ·simp only [aD_.l0]; exact Ev_f (by omega) (Ev_n rfl)
  | succ d ih =>
   intro i h1
   have hi : i < m.length := by omega
   obtain ⟨hs1, hs2⟩ := hn m[i] (List.getElem_mem _)
   have w := wr64s i (by omega)
   have step : ∀ b, Ev (fun n => if m[i].f0 = ((i + 1 : Nat) : Int) then (bY_.f m[i].f1 0 (i : Int)).bind fun t103 => (if t103 = true then ((bb_.f n m[i].f2).bind fun t104 => (if t104 = true then ((aw_.f n m[i].f3).bind fun t105 => (if t105 = true then (bC_.l0 n m ((i + 1 : Nat) : Int)) else (some false))) else (some false))) else (some false)) else some false) b →
     Ev (fun n => if m[i].f0 = ((i + 1 : Nat) : Int) then (aF_.f m[i].f1 0 (i : Int)).bind fun t103 => (if t103 = true then ((aQ_.f n m[i].f2).bind fun t104 => (if t104 = true then ((an_.f n m[i].f3).bind fun t105 => (if t105 = true then (aD_.l0 n m m (m.length : Int) ((i + 1 : Nat) : Int)) else (some false))) else (some false))) else (some false)) else some false) b →
     Ev (fun k => bC_.l0 k m i) b ∧ Ev (fun k => aD_.l0 k m m (m.length : Int) i) b := by
    intro b q1 q2
    constructor
    ·refine bf_ ?_
     simp only [bC_.l0]
     refine Ev_t (by omega) (Ev_t (by omega) ?_)
     rw [show ar_ m (i : Int) = m[i] from cg_ m i hi, w]
     exact q1
    ·refine bf_ ?_
     simp only [aD_.l0]
     refine Ev_t (by omega) (Ev_t (by omega) (Ev_t (by omega) ?_))
     rw [show ar_ m (i : Int) = m[i] from cg_ m i hi, w]
     exact q2
   by_cases c0 : m[i].f0 = ((i + 1 : Nat) : Int)
   case neg =>
    obtain ⟨s1, s2⟩ := step false (Ev_f c0 (Ev_n rfl)) (Ev_f c0 (Ev_n rfl))
    exact ⟨false, s1, s2, fun h => by cases h⟩
   have i1 := in_f m[i].f1 0 (i : Int)
   have i2 := within_f m[i].f1 0 (i : Int)
   by_cases c1 : (decide ((0 : Int) ≤ m[i].f1) && decide (m[i].f1 ≤ (i : Int))) = true
   case neg =>
    have c1' : (decide ((0 : Int) ≤ m[i].f1) && decide (m[i].f1 ≤ (i : Int))) = false := by simpa using c1
    rw [c1'] at i1 i2
    obtain ⟨s1, s2⟩ := step false (Ev_t c0 (Ev_b (Ev_c i1) (Ev_f (by decide) (Ev_n rfl)))) (Ev_t c0 (Ev_b (Ev_c i2) (Ev_f (by decide) (Ev_n rfl))))
    exact ⟨false, s1, s2, fun h => by cases h⟩
   rw [c1] at i1 i2
   simp only [Bool.and_eq_true, decide_eq_true_eq] at c1
   obtain ⟨nb, n1, n2⟩ := note_ev m[i].f2 hs1
   cases nb with
   | false =>
    obtain ⟨s1, s2⟩ := step false (Ev_t c0 (Ev_b (Ev_c i1) (Ev_t rfl (Ev_b n1 (Ev_f (by decide) (Ev_n rfl)))))) (Ev_t c0 (Ev_b (Ev_c i2) (Ev_t rfl (Ev_b n2 (Ev_f (by decide) (Ev_n rfl))))))
    exact ⟨false, s1, s2, fun h => by cases h⟩
   | true =>
    obtain ⟨sb, t1, t2, t3⟩ := state_ev m[i].f3 hs2
    cases sb with
    | false =>
     obtain ⟨s1, s2⟩ := step false (Ev_t c0 (Ev_b (Ev_c i1) (Ev_t rfl (Ev_b n1 (Ev_t rfl (Ev_b t1 (Ev_f (by decide) (Ev_n rfl)))))))) (Ev_t c0 (Ev_b (Ev_c i2) (Ev_t rfl (Ev_b n2 (Ev_t rfl (Ev_b t2 (Ev_f (by decide) (Ev_n rfl))))))))
     exact ⟨false, s1, s2, fun h => by cases h⟩
    | true =>
     obtain ⟨b, b1, b2, b3⟩ := ih (i + 1) (by omega)
     obtain ⟨s1, s2⟩ := step b (Ev_t c0 (Ev_b (Ev_c i1) (Ev_t rfl (Ev_b n1 (Ev_t rfl (Ev_b t1 (Ev_t rfl b1))))))) (Ev_t c0 (Ev_b (Ev_c i2) (Ev_t rfl (Ev_b n2 (Ev_t rfl (Ev_b t2 (Ev_t rfl b2)))))))
     refine ⟨b, s1, s2, fun h => ?_⟩
     obtain ⟨d1, d2⟩ := b3 h
     refine ⟨d1, fun j h2 hj => ?_⟩
     rcases Nat.lt_or_eq_of_le h2 with g | g
     ·exact d2 j (by omega) hj
     ·subst g; exact ⟨by omega, c1.1, c1.2, t3 rfl⟩
 obtain ⟨b, b1, b2, b3⟩ := go m.length 0 (by omega)
 refine ⟨b, by simp only [bC_.f]; exact b1, by simp only [aD_.f]; exact b2, fun h => ?_⟩
 obtain ⟨c1, c2⟩ := b3 h
 exact ⟨c1, fun i hi => c2 i (by omega) hi⟩
theorem ep_ev (a0 a1 : ByteArray) (a2 a3 : Int) (b : ByteArray) : cb_.f a0 a1 a2 a3 b = some (Go.Lib.compareBytes a0.data.toList b.data.toList) := by
 unfold cb_.f strings_Compare.f
 rfl
theorem keyE_iff (x : Ent) (u : ByteArray) : Go.Lib.compareBytes (fcE x) u.data.toList = 0 ↔ x.f0.toList = u.toList := by
 rw [dq_.zero]
 simp only [fcE, Go.ByteArray.toList_eq]
theorem bsE_ev (l : List Ent) (hl : (l.length : Int) ≤ 1048576) (u : ByteArray) (hr : Rsg (fun x => Go.Lib.compareBytes (fcE x) u.data.toList) l) :
  Ev (fun k => bj_.f k l u) (((plc (fun x => Go.Lib.compareBytes (fcE x) u.data.toList) l : Nat) : Int), fnd (fun x => Go.Lib.compareBytes (fcE x) u.data.toList) l) := by
 have hp0 := plc_le (fun x => Go.Lib.compareBytes (fcE x) u.data.toList) l
 have go : ∀ (d i j : Nat), j = i + d → i ≤ plc (fun x => Go.Lib.compareBytes (fcE x) u.data.toList) l → plc (fun x => Go.Lib.compareBytes (fcE x) u.data.toList) l ≤ j → j ≤ l.length → Ev (fun k => bj_.l0 k l u (l.length : Int) i j) (((plc (fun x => Go.Lib.compareBytes (fcE x) u.data.toList) l : Nat) : Int), fnd (fun x => Go.Lib.compareBytes (fcE x) u.data.toList) l) := by
  intro d
  induction d using Nat.strongRecOn with
  | _ d ih =>
  intro i j h1 h2 h3 h4
  refine bf_ ?_
  simp only [bj_.l0]
  by_cases hd : d = 0
  rotate_left
  ·refine Ev_t (by omega) ?_
   rw [mid_ev i j (by omega)]
   obtain ⟨m, hm⟩ : ∃ m, m = (i + j) / 2 := ⟨_, rfl⟩
   rw [← hm]
   have hm1 : m < l.length := by omega
   refine Ev_t (by omega) (Ev_t (by omega) ?_)
   rw [bL_ l m hm1, ep_ev]
   refine Ev_s ?_
   by_cases hc : Go.Lib.compareBytes l[m].f0.data.toList u.data.toList < 0
   rotate_left
   ·refine Ev_f hc ?_
    refine ih (m - i) (by omega) i m (by omega) h2 ?_ (by omega)
    rcases Nat.lt_or_ge m (plc (fun x => Go.Lib.compareBytes (fcE x) u.data.toList) l) with g | g
    ·exact absurd (plc_lt _ l m hm1 g) hc
    ·exact g
   refine Ev_t hc ?_
   rw [wr64s m (by omega)]
   refine ih (j - (m + 1)) (by omega) (m + 1) j (by omega) ?_ h3 h4
   rcases Nat.lt_or_ge m (plc (fun x => Go.Lib.compareBytes (fcE x) u.data.toList) l) with g | g
   ·exact g
   ·rcases Nat.lt_or_eq_of_le g with g | g
    ·have hgt : 0 < Go.Lib.compareBytes (fcE l[m]) u.data.toList := hr.gt m hm1 g
     have hc' : Go.Lib.compareBytes (fcE l[m]) u.data.toList < 0 := hc
     omega
    ·have := plc_at (fun x => Go.Lib.compareBytes (fcE x) u.data.toList) l (by omega)
     simp only [g] at this
     have hc' : Go.Lib.compareBytes (fcE l[m]) u.data.toList < 0 := hc
     omega
  refine Ev_f (by omega) ?_
  have hp : plc (fun x => Go.Lib.compareBytes (fcE x) u.data.toList) l = i := by omega
  by_cases hn : i < l.length
  rotate_left
  ·refine Ev_f (by omega) (Ev_n ?_)
   unfold fnd
   rw [dif_neg (by omega), hp]
  refine Ev_t (by omega) (Ev_t (by omega) (Ev_t (by omega) ?_))
  rw [bL_ l i hn, ep_ev]
  refine Ev_s (Ev_n ?_)
  unfold fnd
  rw [dif_pos (by omega)]
  simp only [hp]
  rfl
 simp only [bj_.f]
 exact go l.length 0 l.length (by omega) (by omega) hp0 (Nat.le_refl _)
theorem placeE_ev (l : List Ent) (hl : (l.length : Int) ≤ 1048576) (u : ByteArray) (hr : Rsg (fun x => Go.Lib.compareBytes (fcE x) u.data.toList) l) :
  Ev (fun k => bM_.f k l u) (((plc (fun x => Go.Lib.compareBytes (fcE x) u.data.toList) l : Nat) : Int), fnd (fun x => Go.Lib.compareBytes (fcE x) u.data.toList) l) := by
 simp only [bM_.f]
 exact Ev_b (bsE_ev l hl u hr) (Ev_n rfl)
theorem Sta.rsg {m : List Ent} (h : Sta m) (t : List UInt8) : Rsg (fun x => Go.Lib.compareBytes (fcE x) t) m := rsg_of dq_ fcE h.2.1 t
theorem ven_ne {l : List UInt8} {a b : Int} (h : vVen l a b = true) : l ≠ [] := by
 intro e
 subst e
 simp [vVen, spi] at h
section
variable {α κ : Type} {c : κ → κ → Int} {key : α → κ}
theorem rsgG (ho : Ordr c) {l : List α} (h : l.Pairwise (fun x y => c (key x) (key y) < 0)) (t : κ) : Rsg (fun x => c (key x) t) l := by
 intro i j hi hj h0
 exact ho.step ((List.pairwise_iff_getElem.1 h) i j (by omega) hj hi) h0
def putG (c : κ → κ → Int) (key : α → κ) (l : List α) (b : α) : List α :=
 if fnd (fun x => c (key x) (key b)) l = true then l.take (plc (fun x => c (key x) (key b)) l) ++ b :: l.drop (plc (fun x => c (key x) (key b)) l + 1)
 else l.take (plc (fun x => c (key x) (key b)) l) ++ b :: l.drop (plc (fun x => c (key x) (key b)) l)
theorem aheadG {l : List α} {t : κ} {x : α} (h : x ∈ l.take (plc (fun x => c (key x) t) l)) : c (key x) t < 0 := by
 obtain ⟨i, hi, rfl⟩ := List.mem_iff_getElem.1 h
 rw [List.getElem_take]
 exact plc_lt (fun x => c (key x) t) l i (by simp at hi; omega) (by simp at hi; omega)
theorem behindG {l : List α} {t : κ} (hr : Rsg (fun x => c (key x) t) l) {x : α} (h : x ∈ l.drop (plc (fun x => c (key x) t) l + 1)) : 0 < c (key x) t := by
 obtain ⟨i, hi, rfl⟩ := List.mem_iff_getElem.1 h
 rw [List.getElem_drop]
 exact hr.gt _ (by simp at hi; omega) (by omega)
theorem putG_pw (ho : Ordr c) {l : List α} (h : l.Pairwise (fun x y => c (key x) (key y) < 0)) (b : α) : (putG c key l b).Pairwise (fun x y => c (key x) (key y) < 0) := by
 have hr := rsgG ho h (key b)
 have hp := plc_le (fun x => c (key x) (key b)) l
 have key' : ∀ q, (∀ x ∈ l.drop q, 0 < c (key x) (key b)) → plc (fun x => c (key x) (key b)) l ≤ q → (l.take (plc (fun x => c (key x) (key b)) l) ++ b :: l.drop q).Pairwise (fun x y => c (key x) (key y) < 0) := by
  intro q hq hle
  rw [List.pairwise_append]
  refine ⟨h.sublist (List.take_sublist _ _), ?_, ?_⟩
  ·rw [List.pairwise_cons]
   exact ⟨fun y hy => (ho.anti _ _).2 (hq y hy), h.sublist (List.drop_sublist _ _)⟩
  ·intro x hx y hy
   have hx0 := aheadG hx
   rcases List.mem_cons.1 hy with e | e
   ·subst e; exact hx0
   ·exact ho.trans _ _ _ hx0 ((ho.anti _ _).2 (hq y e))
 unfold putG
 split
 ·exact key' _ (fun x hx => behindG hr hx) (by omega)
 ·rename_i hf
  refine key' _ (fun x hx => ?_) (Nat.le_refl _)
  obtain ⟨i, hi, rfl⟩ := List.mem_iff_getElem.1 hx
  rw [List.getElem_drop]
  simp at hi
  have hn := fnd_f hr (by simpa using hf) (plc (fun x => c (key x) (key b)) l + i) (by omega)
  rcases Nat.eq_zero_or_pos i with g | g
  ·subst g
   have := plc_at (fun x => c (key x) (key b)) l (by omega)
   simp only [Nat.add_zero] at hn ⊢
   omega
  ·exact hr.gt _ (by omega) (by omega)
theorem putG_len (l : List α) (b : α) : (putG c key l b).length ≤ l.length + 1 ∧ (fnd (fun x => c (key x) (key b)) l = true → (putG c key l b).length = l.length) ∧ (fnd (fun x => c (key x) (key b)) l = false → (putG c key l b).length = l.length + 1) := by
 have hp := plc_le (fun x => c (key x) (key b)) l
 unfold putG
 cases hf : fnd (fun x => c (key x) (key b)) l with
 | true =>
  obtain ⟨h1, _⟩ := fnd_t hf
  simp
  omega
 | false =>
  simp
  omega
end
end Go.Proofs.YtiheginanghhjaaDoor.Q
namespace Go.Proofs.YtiheginanghhjaaDoor.Q
open Go.RowKit Go.Proofs.YtiheginanghhjaaDoorW.PrintWords Go.Proofs.YtiheginanghhjaaDoorW.PrintLast Go.Proofs.YtiheginanghhjaaDoorW.PrintMore
abbrev risE (l : List Ent) : Prop := l.Pairwise (fun x y => Go.Lib.compareBytes (fcE x) (fcE y) < 0)
abbrev putE (l : List Ent) (b : Ent) : List Ent := putG Go.Lib.compareBytes fcE l b
theorem setE_ev (l : List Ent) (hl : (l.length : Int) ≤ 1048576) (b : Ent) (hr : Rsg (fun x => Go.Lib.compareBytes (fcE x) (fcE b)) l) : Ev (fun k => aR_.f k l b.f0 b.f1.f0 b.f1.f1 b.f1.f2) (putE l b) := by
 obtain ⟨c, hc⟩ : ∃ c, c = (fun x => Go.Lib.compareBytes (fcE x) (fcE b)) := ⟨_, rfl⟩
 unfold putE putG
 rw [← hc] at hr ⊢
 have key : ∀ x, c x = 0 ↔ x.f0.toList = b.f0.toList := fun x => by rw [hc]; exact keyE_iff x b.f0
 have cEq : ∀ y : Ent, Op.bytesLess y.f0.toList b.f0.toList = decide (c y < 0) := fun y => by
  rw [hc]
  have := less_iff y.f0.toList b.f0.toList
  simp only [fcE, Go.ByteArray.toList_eq] at this ⊢
  cases hb : Op.bytesLess y.f0.data.toList b.f0.data.toList with
  | true => exact (decide_eq_true (this.1 hb)).symm
  | false => exact (decide_eq_false (fun h => by rw [this.2 h] at hb; cases hb)).symm
 have hb : ∀ y : Ent, (⟨y.f0, (⟨y.f1.f0, y.f1.f1, y.f1.f2⟩ : S57)⟩ : Ent) = y := fun y => rfl
 have two : ∀ (d i : Nat) (out : List Ent), i + d = l.length → plc c l < i → out.length ≤ i + 1 → Ev (fun k => aR_.l0 k l out true i b.f0 b.f1.f0 b.f1.f1 b.f1.f2) (out ++ l.drop i) := by
  intro d
  induction d with
  | zero =>
   intro i out h1 h2 h3
   refine bf_ ?_
   simp only [aR_.l0]
   rw [List.drop_of_length_le (by omega), List.append_nil]
   exact Ev_f (by omega) (Ev_t (by first | exact True.intro | rfl) (Ev_n rfl))
  | succ d ih =>
   intro i out h1 h2 h3
   refine bf_ ?_
   simp only [aR_.l0]
   refine Ev_t (by omega) (Ev_t (by first | exact True.intro | rfl) (bf_ ?_))
   simp only [aR_.j1]
   refine Ev_f (by decide) (Ev_t (by omega) (Ev_t (by omega) ?_))
   rw [bL_ l i (by omega), wr64s i (by omega), List.drop_eq_getElem_cons (show i < l.length by omega), hb]
   have hn : c l[i] ≠ 0 := by have := hr.gt i (by omega) h2; omega
   have nxt := ih (i + 1) (out ++ [l[i]]) (by omega) (by omega) (by simp; omega)
   rw [List.append_assoc, List.singleton_append] at nxt
   exact Ev_f (fun e0 => hn ((key _).2 e0)) (Ev_t (by omega) nxt)
 have one : ∀ (d i : Nat), i + d = plc c l → Ev (fun k => aR_.l0 k l (l.take i) false i b.f0 b.f1.f0 b.f1.f1 b.f1.f2) (if fnd c l = true then l.take (plc c l) ++ b :: l.drop (plc c l + 1) else l.take (plc c l) ++ b :: l.drop (plc c l)) := by
  have hp0 := plc_le c l
  intro d
  induction d with
  | zero =>
   intro i h1
   have h1' : i = plc c l := by omega
   subst h1'
   refine bf_ ?_
   simp only [aR_.l0]
   have hlen : (l.take (plc c l)).length = plc c l := by simp; omega
   by_cases hn : plc c l < l.length
   rotate_left
   ·have hf : ¬ fnd c l = true := by unfold fnd; rw [dif_neg hn]; decide
    rw [if_neg hf, List.drop_of_length_le (by omega)]
    exact Ev_f (by omega) (Ev_f (by decide) (Ev_t (by omega) (Ev_n rfl)))
   refine Ev_t (by omega) (Ev_f (by decide) (Ev_t (by omega) (bf_ ?_)))
   rw [bL_ l _ hn, cEq]
   have h0 := plc_at c l hn
   simp only [aR_.j1]
   refine Ev_t (by simpa using h0) (Ev_t (by omega) (Ev_s (Ev_t (by omega) (Ev_t (by omega) ?_))))
   rw [bL_ l _ hn, hb, hb, wr64s _ (by omega)]
   have more : ∀ out : List Ent, out.length ≤ plc c l + 2 → Ev (fun k => aR_.l0 k l out true ((plc c l + 1 : Nat) : Int) b.f0 b.f1.f0 b.f1.f1 b.f1.f2) (out ++ l.drop (plc c l + 1)) := fun out ho =>
    two (l.length - (plc c l + 1)) (plc c l + 1) out (by omega) (by omega) ho
   by_cases hz : c l[plc c l] = 0
   rotate_left
   ·have hf : ¬ fnd c l = true := by unfold fnd; rw [dif_pos hn]; simpa using hz
    rw [if_neg hf]
    refine Ev_f (fun e0 => hz ((key _).2 e0)) (Ev_t (by simp; omega) ?_)
    refine Ev_at (more (l.take (plc c l) ++ [b] ++ [l[plc c l]]) (by simp; omega)) ?_
    rw [List.append_assoc, List.append_assoc, List.singleton_append, List.singleton_append, List.getElem_cons_drop]
   have hf : fnd c l = true := by unfold fnd; rw [dif_pos hn]; simpa using hz
   rw [if_pos hf]
   refine Ev_t ((key _).1 hz) ?_
   refine Ev_at (more _ (by simp; omega)) ?_
   rw [List.append_assoc, List.singleton_append]
  | succ d ih =>
   intro i h1
   have hi : i < l.length := by omega
   have hlen : (l.take i).length = i := by simp; omega
   refine bf_ ?_
   simp only [aR_.l0]
   refine Ev_t (by omega) (Ev_f (by decide) (Ev_t (by omega) (bf_ ?_)))
   rw [bL_ l i hi, cEq]
   have h0 := plc_lt c l i hi (by omega)
   simp only [aR_.j1]
   refine Ev_f (by simpa using h0) (Ev_t (by omega) (Ev_t (by omega) ?_))
   rw [bL_ l i hi, hb, wr64s i (by omega)]
   have nxt := ih (i + 1) (by omega)
   rw [List.take_succ_eq_append_getElem hi] at nxt
   exact Ev_f (fun e0 => by have := (key _).2 e0; omega) (Ev_t (by omega) nxt)
 simp only [aR_.f]
 exact one (plc c l) 0 (by omega)
abbrev bL (u : ByteArray) : List UInt8 := u.data.toList
theorem bL_inj {u v : ByteArray} (h : bL u = bL v) : u = v := by
 cases u with | mk a => cases v with | mk b => cases a; cases b; simp only [bL] at h; subst h; rfl
def zE : Ent := ⟨(⟨#[]⟩ : ByteArray), ⟨(⟨#[]⟩ : ByteArray), 0, 0⟩⟩
def gE (m : List Ent) (u : ByteArray) : Ent := if fnd (fun x => Go.Lib.compareBytes (fcE x) u.data.toList) m = true then m.getD (plc (fun x => Go.Lib.compareBytes (fcE x) u.data.toList) m) zE else zE
def Stn (m : List Ent) : Prop := Sta m ∧ ∀ y ∈ m, y.f0.toList ≠ []
theorem name_ne (k : Nat) (x : ByteArray) (h : aN_.f k x = some true) : x.toList ≠ [] := by
 intro e
 simp only [aN_.f] at h
 rw [if_pos e] at h
 cases k with
 | zero => simp [aN_.j0] at h
 | succ k => simp [aN_.j0] at h
theorem state_ne (m : List Ent) : ∀ (k i : Nat), aw_.l0 k m i = some true → ∀ (j : Nat) (hj : j < m.length), i ≤ j → m.length < 1000000 → m[j].f0.toList ≠ []
 | 0, i, h, _, _, _, _ => by simp [aw_.l0] at h
 | k + 1, i, h, j, hj, hij, hm => by
  simp only [aw_.l0] at h
  rw [if_pos (by omega), if_pos (by omega), wr64s i (by omega), bL_ m i (by omega)] at h
  obtain ⟨t, h1, h2⟩ := Option.bind_eq_some_iff.1 h
  cases t with
  | false => simp at h2
  | true =>
   rw [if_pos rfl] at h2
   have nx : aw_.l0 k m ((i + 1 : Nat) : Int) = some true := by
    split at h2
    ·split at h2
     ·split at h2
      ·split at h2
       ·exact h2
       ·simp at h2
      ·cases h2
     ·cases h2
    ·exact h2
   have hn : m[i].f0.toList ≠ [] := by
    have r0 : aa_ [m[i]'(by omega)] 0 = m[i]'(by omega) := rfl
    simp only [ci_.f, r0] at h1
    rw [if_pos (by simp)] at h1
    obtain ⟨t2, g1, g2⟩ := Option.bind_eq_some_iff.1 h1
    cases t2 with
    | false => simp at g2
    | true => exact name_ne k _ g1
   rcases Nat.lt_or_eq_of_le hij with g | g
   ·exact state_ne m k (i + 1) nx j hj (by omega) hm
   ·subst g; exact hn
theorem stateN_ev (m : List Ent) (hl : (m.length : Int) ≤ 1048576) : ∃ b, Ev (fun k => aw_.f k m) b ∧ Ev (fun k => an_.f k m) b ∧ (b = true → Stn m) := by
 obtain ⟨b, h1, h2, h3⟩ := state_ev m hl
 refine ⟨b, h1, h2, fun hb => ?_⟩
 subst hb
 obtain ⟨K, hK⟩ := h1
 have hk := hK K (Nat.le_refl _)
 simp only [aw_.f] at hk
 refine ⟨h3 rfl, fun y hy => ?_⟩
 obtain ⟨j, hj, rfl⟩ := List.mem_iff_getElem.1 hy
 have := (h3 rfl).1
 exact state_ne m K 0 hk j hj (by omega) (by omega)
theorem gE_at (m : List Ent) (u : ByteArray) (h : fnd (fun x => Go.Lib.compareBytes (fcE x) u.data.toList) m = true) : ∃ hp : plc (fun x => Go.Lib.compareBytes (fcE x) u.data.toList) m < m.length, gE m u = m[plc (fun x => Go.Lib.compareBytes (fcE x) u.data.toList) m]'hp ∧ fcE (m[plc (fun x => Go.Lib.compareBytes (fcE x) u.data.toList) m]'hp) = u.data.toList := by
 obtain ⟨hp, h0⟩ := fnd_t h
 refine ⟨hp, ?_, (dq_.zero _ _).1 h0⟩
 unfold gE
 rw [if_pos h]
 simp [List.getD, hp]
theorem getI_ev (m : List Ent) (hs : Sta m) (u : ByteArray) : Ev (fun k => dk_.f k m u) ((gE m u).f1.f0, (gE m u).f1.f1, (gE m u).f1.f2) := by
 have h24 := hs.1
 have f2 := placeE_ev m (by omega) u (hs.rsg _)
 simp only [dk_.f]
 cases hf : fnd (fun x => Go.Lib.compareBytes (fcE x) u.data.toList) m with
 | false =>
  rw [hf] at f2
  have e : gE m u = zE := by unfold gE; rw [hf]; rfl
  rw [e]
  exact Ev_b f2 (Ev_f (by simp) (Ev_n rfl))
 | true =>
  obtain ⟨hp, e, _⟩ := gE_at m u hf
  rw [hf] at f2
  refine Ev_b f2 (Ev_t rfl (Ev_t (by show (0 : Int) ≤ _; omega) (Ev_t (by show _ < (m.length : Int); omega) (Ev_n ?_))))
  simp only
  rw [e, bL_ m _ hp]
theorem gE_cases (m : List Ent) (hs : Stn m) (u : ByteArray) : (gE m u = zE ∧ u ∉ m.map (·.f0)) ∨ ((gE m u).f0 = u ∧ (gE m u).f1.f0.toList ≠ [] ∧ u.toList ≠ [] ∧ u ∈ m.map (·.f0)) := by
 cases hf : fnd (fun x => Go.Lib.compareBytes (fcE x) u.data.toList) m with
 | false =>
  refine .inl ⟨by unfold gE; rw [hf]; rfl, fun h => ?_⟩
  obtain ⟨y, hy, e⟩ := List.mem_map.1 h
  obtain ⟨i, hi, rfl⟩ := List.mem_iff_getElem.1 hy
  have := fnd_f (hs.1.rsg u.data.toList) hf i hi
  apply this
  rw [dq_.zero]
  simp only [fcE]
  rw [← e]
 | true =>
  obtain ⟨hp, e, h0⟩ := gE_at m u hf
  have e2 : (m[plc (fun x => Go.Lib.compareBytes (fcE x) u.data.toList) m]'hp).f0 = u := bL_inj h0
  rw [e]
  refine .inr ⟨e2, ven_ne (hs.1.2.2 _ (List.getElem_mem _)), ?_, List.mem_map.2 ⟨_, List.getElem_mem hp, e2⟩⟩
  rw [← e2]
  exact hs.2 _ (List.getElem_mem _)
def dV (x y : Ent) : Bool := (!(x.f1.f0.toList == y.f1.f0.toList) || (!(x.f1.f1 == y.f1.f1) || (!(x.f1.f2 == y.f1.f2))))
theorem zt : (zE.f0.toList = []) ∧ (zE.f1.f0.toList = []) := by
 constructor <;> (show (⟨#[]⟩ : ByteArray).toList = []; rw [Go.ByteArray.toList_eq])
theorem rd_nat (l : List Int) (i : Nat) (h : i < l.length) : rd l (i : Int) = l[i] := by unfold rd; exact getD_in l _ i h
theorem contains_ev (l : List Int) (hl : (l.length : Int) ≤ 1048576) (x : Int) : Ev (fun k => bQ_.f k l x) (decide (x ∈ l)) := by
 have go : ∀ (d i : Nat), i + d = l.length → ∃ r : Int, Ev (fun k => aP_.l0 k l x (l.length : Int) i) r ∧ decide (r ≥ 0) = decide (x ∈ l.drop i) := by
  intro d
  induction d with
  | zero =>
   intro i h
   refine ⟨-1, bf_ ?_, ?_⟩
   ·simp only [aP_.l0]; exact Ev_f (by omega) (Ev_n rfl)
   ·rw [List.drop_of_length_le (by omega)]; simp
  | succ d ih =>
   intro i h
   by_cases e : x = l[i]
   rotate_left
   ·obtain ⟨r, r1, r2⟩ := ih (i + 1) (by omega)
    refine ⟨r, bf_ ?_, ?_⟩
    ·simp only [aP_.l0]
     rw [rd_nat l i (by omega), wr64s i (by omega)]
     exact Ev_t (by omega) (Ev_t (by omega) (Ev_t (by omega) (Ev_f e r1)))
    ·rw [r2, List.drop_eq_getElem_cons (show i < l.length by omega), decide_eq_decide, List.mem_cons]
     exact ⟨.inr, fun h => h.resolve_left e⟩
   refine ⟨i, bf_ ?_, ?_⟩
   ·simp only [aP_.l0]
    rw [rd_nat l i (by omega)]
    exact Ev_t (by omega) (Ev_t (by omega) (Ev_t (by omega) (Ev_t e (Ev_n rfl))))
   ·rw [List.drop_eq_getElem_cons (show i < l.length by omega), decide_eq_decide, List.mem_cons]
    exact ⟨fun _ => .inl e, fun _ => by omega⟩
 obtain ⟨r, r1, r2⟩ := go l.length 0 (by omega)
 simp only [bQ_.f, aP_.f]
 exact Ev_b r1 (Ev_n (by rw [r2, List.drop_zero]))
theorem project_ne (m : List Ver) (hm : m.length < 1000000) : ∀ (d i k : Nat) (hj : i + d < m.length), bC_.l0 (k + d + 1) m i = some true → aw_.f k (m[i + d]'hj).f3 = some true
 | d, i, k, hj, h => by
  simp only [bC_.l0] at h
  rw [if_pos (by omega), if_pos (by omega), wr64s i (by omega), cg_ m i (by omega)] at h
  split at h
  case isFalse => simp at h
  obtain ⟨t, _, h⟩ := Option.bind_eq_some_iff.1 h
  cases t with
  | false => simp at h
  | true =>
   rw [if_pos rfl] at h
   obtain ⟨t, _, h⟩ := Option.bind_eq_some_iff.1 h
   cases t with
   | false => simp at h
   | true =>
    rw [if_pos rfl] at h
    obtain ⟨t, h1, h⟩ := Option.bind_eq_some_iff.1 h
    cases t with
    | false => simp at h
    | true =>
     rw [if_pos rfl] at h
     cases d with
     | zero => exact h1
     | succ d =>
      have := project_ne m hm d (i + 1) k (by omega) (by rw [show k + d + 1 = k + (d + 1) by omega]; exact h)
      simp only [show i + 1 + d = i + (d + 1) by omega] at this
      exact this
def Vst (s : List Ent) : Prop := Stn s ∧ Ev (fun k => an_.f k s) true
theorem Vst_of (s : List Ent) (hl : (s.length : Int) ≤ 1048576) (h4 : Ev (fun k => aw_.f k s) true) : Vst s := by
 obtain ⟨b, h1, h2, h3⟩ := stateN_ev s hl
 have := Ev_one h1 h4
 subst this
 exact ⟨h3 rfl, h2⟩
theorem projectN_ev (m : List Ver) (hl : (m.length : Int) ≤ 1048576) (hn : ∀ y ∈ m, (y.f2.size : Int) ≤ 1048576 ∧ (y.f3.length : Int) ≤ 1048576) : ∃ b, Ev (fun k => bC_.f k m) b ∧ Ev (fun k => aD_.f k m) b ∧ (b = true → Prj m ∧ ∀ y ∈ m, Vst y.f3) := by
 obtain ⟨b, h1, h2, h3⟩ := project_ev m hl hn
 refine ⟨b, h1, h2, fun hb => ?_⟩
 subst hb
 have hp := h3 rfl
 refine ⟨hp, fun y hy => ?_⟩
 obtain ⟨K, hK⟩ := h1
 have h16 := hp.1
 refine Vst_of _ (hn y hy).2 ?_
 obtain ⟨j, hj, rfl⟩ := List.mem_iff_getElem.1 hy
 refine ⟨K, fun k hk => ?_⟩
 have h := hK (k + j + 1) (by omega)
 simp only [bC_.f] at h
 have := project_ne m (by omega) j 0 k (by omega) h
 simpa using this
def u8s (c : List Int) : Prop := (c.length : Int) ≤ 1048576 ∧ ∀ x ∈ c, 0 ≤ x ∧ x < 256
theorem u64w (n : Int) : IntKind.u64.wrap n = n % 18446744073709551616 := by simp [IntKind.wrap, IntKind.bits, IntKind.signed]
theorem p64 : (2 : Int) ^ 64 = 18446744073709551616 := by decide
theorem u64wr (n : Int) (h0 : 0 ≤ n) (h1 : n < 2 ^ 64) : IntKind.u64.wrap n = n := by
 rw [p64] at h1
 rw [u64w]
 omega
theorem and255 (x : Int) (h : 0 ≤ x) (h2 : x < 18446744073709551616) : Go.bits .and .u64 x 255 = x % 256 := by
 have h3 : x < 2 ^ 64 := by rw [p64]; exact h2
 exact bits_mask .u64 64 (by decide) u64wr 8 (by decide) x h h3
theorem high_byte (z : Int) : 0 ≤ wrap64 (Go.bits .and .u64 (IntKind.u64.wrap z / 1099511627776) 255) ∧ wrap64 (Go.bits .and .u64 (IntKind.u64.wrap z / 1099511627776) 255) < 256 := by
 rw [u64w, and255 _ (by omega) (by omega), wr64 (by omega) (by omega)]
 omega
theorem next_ok (c : List Int) (hc : u8s c) (a s : Int) (h0 : 0 ≤ a) (h1 : a < 4611686018427387904) : ∃ v s', ca_.f c a s = some (v, a + 1, s') ∧ 0 ≤ v ∧ v < 256 := by
 have ha : wrap64 (a + 1) = a + 1 := wr64 (by omega) (by omega)
 unfold ca_.f
 rw [ha]
 by_cases c1 : a < (c.length : Int)
 rotate_left
 ·rw [if_neg c1]
  rw [if_neg (by omega)]
  have hb := high_byte ((IntKind.u64.wrap ((IntKind.u64.wrap (s * 6364136223846793005)))) + 1442695040888963407)
  exact ⟨_, _, rfl, hb.1, hb.2⟩
 rw [if_pos c1, if_pos h0, if_pos (by omega)]
 have hv : 0 ≤ rd c a ∧ rd c a < 256 := by
  unfold rd
  have hi : a.toNat < c.length := by omega
  rw [List.getD_eq_getElem?_getD, List.getElem?_eq_getElem hi]
  exact hc.2 _ (List.getElem_mem hi)
 rw [wr64 (x := rd c a) (by omega) (by omega)]
 exact ⟨_, _, rfl, hv.1, hv.2⟩
theorem pick_ok (c : List Int) (hc : u8s c) (a s n : Int) (h0 : 0 ≤ a) (h1 : a < 4611686018427387000) (hn : n < 65536) : ∃ v a' s', aB_.f c a s n = some (v, a', s') ∧ a ≤ a' ∧ a' ≤ a + 2 ∧ 0 ≤ v ∧ (0 < n → v < n) := by
 unfold aB_.f
 by_cases c1 : n ≤ 1
 rotate_left
 ·rw [if_neg c1]
  obtain ⟨v, s1, e1, v0, v1⟩ := next_ok c hc a s h0 (by omega)
  rw [e1]
  simp only [Option.bind_some]
  by_cases c2 : n > 200
  rotate_left
  ·rw [if_neg c2, if_neg (by omega)]
   refine ⟨_, _, _, rfl, by omega, by omega, Int.tmod_nonneg _ (by omega), fun _ => Int.tmod_lt_of_pos _ (by omega)⟩
  rw [if_pos c2]
  obtain ⟨v2, s2, e2, w0, w1⟩ := next_ok c hc (a + 1) s1 (by omega) (by omega)
  rw [e2]
  simp only [Option.bind_some]
  rw [if_neg (by omega), wr64 (x := v * 256) (by omega) (by omega), wr64 (by omega) (by omega)]
  refine ⟨_, _, _, rfl, by omega, by omega, Int.tmod_nonneg _ (by omega), fun _ => Int.tmod_lt_of_pos _ (by omega)⟩
 rw [if_pos c1]; exact ⟨0, a, s, rfl, by omega, by omega, by omega, by omega⟩
theorem text_ok (c : List Int) (hc : u8s c) (a s : Int) (l : List ByteArray) (h0 : 0 ≤ a) (h1 : a < 4611686018427387000) (hl : 0 < l.length) (hl2 : (l.length : Int) < 65536) : ∃ v a' s', bP_.f c a s l = some (v, a', s') ∧ a ≤ a' ∧ a' ≤ a + 2 ∧ v ∈ l := by
 unfold bP_.f
 obtain ⟨v, a', s', e, h2, h3, v0, v1⟩ := pick_ok c hc a s (l.length : Int) h0 h1 hl2
 have hv := v1 (by omega)
 rw [e]
 simp only [Option.bind_some]
 rw [if_pos v0, if_pos hv]
 refine ⟨_, _, _, rfl, h2, h3, ?_⟩
 unfold rdOf
 have hi : v.toNat < l.length := by omega
 rw [List.getD_eq_getElem?_getD, List.getElem?_eq_getElem hi]
 exact List.getElem_mem hi
theorem among_ok (c : List Int) (hc : u8s c) (a s : Int) (l : List Int) (h0 : 0 ≤ a) (h1 : a < 4611686018427387000) (hl : 0 < l.length) (hl2 : (l.length : Int) < 65536) : ∃ v a' s', cn_.f c a s l = some (v, a', s') ∧ a ≤ a' ∧ a' ≤ a + 2 ∧ v ∈ l := by
 unfold cn_.f
 obtain ⟨v, a', s', e, h2, h3, v0, v1⟩ := pick_ok c hc a s (l.length : Int) h0 h1 hl2
 have hv := v1 (by omega)
 rw [e]
 simp only [Option.bind_some]
 rw [if_pos v0, if_pos hv]
 refine ⟨_, _, _, rfl, h2, h3, ?_⟩
 unfold rd
 have hi : v.toNat < l.length := by omega
 rw [List.getD_eq_getElem?_getD, List.getElem?_eq_getElem hi]
 exact List.getElem_mem hi
theorem one_ok (c : List Int) (hc : u8s c) (a s n : Int) (h0 : 0 ≤ a) (h1 : a < 4611686018427387000) (hn : n < 65536) : ∃ v a' s', cC_.f c a s n = some (v, a', s') ∧ a ≤ a' ∧ a' ≤ a + 2 := by
 unfold cC_.f
 obtain ⟨v, a', s', e, h2, h3, v0, v1⟩ := pick_ok c hc a s n h0 h1 hn
 rw [e]
 exact ⟨_, _, _, rfl, h2, h3⟩
theorem max_f (a b : Int) : ∃ v, cS_.f a b = some v ∧ ((a ≤ b ∧ v = b) ∨ (b ≤ a ∧ v = a)) := by
 unfold cS_.f
 by_cases h : a > b
 rotate_left
 ·rw [if_neg h]; exact ⟨b, rfl, Or.inl ⟨by omega, rfl⟩⟩
 rw [if_pos h]; exact ⟨a, rfl, Or.inr ⟨by omega, rfl⟩⟩
theorem min_f (a b : Int) : ∃ v, cP_.f a b = some v ∧ ((a ≤ b ∧ v = a) ∨ (b ≤ a ∧ v = b)) := by
 unfold cP_.f
 by_cases h : a < b
 rotate_left
 ·rw [if_neg h]; exact ⟨b, rfl, Or.inr ⟨by omega, rfl⟩⟩
 rw [if_pos h]; exact ⟨a, rfl, Or.inl ⟨by omega, rfl⟩⟩
theorem name_of (i : Int) (h0 : 0 ≤ i) (h1 : i ≤ 9) : ∃ t, ck_.f = some t ∧ i < t.length ∧ spi (rdOf ByteArray.empty t i).toList = i ∧ (rdOf ByteArray.empty t i).size ≤ 8 := by
 unfold ck_.f
 have hi : i = 0 ∨ i = 1 ∨ i = 2 ∨ i = 3 ∨ i = 4 ∨ i = 5 ∨ i = 6 ∨ i = 7 ∨ i = 8 ∨ i = 9 := by omega
 rcases hi with rfl | rfl | rfl | rfl | rfl | rfl | rfl | rfl | rfl | rfl <;> exact ⟨_, rfl, by decide, by decide +kernel, by decide +kernel⟩
theorem l07Draw_ok (c : List Int) (hc : u8s c) (a s : Int) (h0 : 0 ≤ a) (h1 : a < 4611686018427380000) : ∃ n sh g a' s', bq_.f c a s = some (n, sh, g, a', s') ∧ a ≤ a' ∧ a' ≤ a + 8 ∧ n.size ≤ 8 ∧ vVen n.toList sh g = true := by
 obtain ⟨k, a1, s1, e1, p1, q1, k0, k1⟩ := pick_ok c hc a s 10 h0 (by omega) (by omega)
 have hk := k1 (by omega)
 obtain ⟨t, et, t1, t2, t3, t4, t5⟩ := shade_of k k0 (by omega)
 obtain ⟨m, em, m1, m2, m3⟩ := name_of k k0 (by omega)
 obtain ⟨d, a2, s2, e2, p2, q2, d0, d1⟩ := pick_ok c hc a1 s1 21 (by omega) (by omega) (by omega)
 have hd := d1 (by omega)
 obtain ⟨g, a3, s3, e3, p3, q3, g0, g1⟩ := pick_ok c hc a2 s2 180 (by omega) (by omega) (by omega)
 have hg := g1 (by omega)
 obtain ⟨r, a4, s4, e4, p4, q4, hr⟩ := among_ok c hc a3 s3 [g, g, 0, 90, 45] (by omega) (by omega) (by simp) (by simp)
 obtain ⟨x, ex, hx⟩ := max_f 0 (wrap64 (wrap64 (rd (rd_L2 t k) 0 + d) - 10))
 obtain ⟨y, ey, hy⟩ := min_f 100 x
 have w1 : wrap64 (wrap64 (rd (rd_L2 t k) 0 + d) - 10) = rd shades k + d - 10 := by rw [t3, wr64 (x := rd shades k + d) (by omega) (by omega), wr64 (by omega) (by omega)]
 rw [w1] at hx
 refine ⟨rdOf ByteArray.empty m k, y, r, a4, s4, ?_, by omega, by omega, m3, ?_⟩
 ·unfold bq_.f
  rw [e1]
  simp only [Option.bind_some]
  rw [et]
  simp only [Option.bind_some]
  rw [if_pos k0, if_pos t1, if_pos (by omega), e2]
  simp only [Option.bind_some]
  rw [em]
  simp only [Option.bind_some]
  rw [if_pos m1, ex]
  simp only [Option.bind_some]
  rw [ey]
  simp only [Option.bind_some]
  rw [e3]
  simp only [Option.bind_some]
  rw [e4]
  rfl
 ·have hr2 : 0 ≤ r ∧ r ≤ 179 := by
   simp only [List.mem_cons, List.not_mem_nil, or_false] at hr
   omega
  unfold vVen
  rw [m2]
  simp only [Bool.and_eq_true, decide_eq_true_eq]
  omega
theorem u8s_of {l : List Int} (hl : ¬ (l.length : Int) > 1048576) (hw : ∀ x ∈ l, (Lit.int .u8 x).wf = true) : u8s l := by
 refine ⟨by omega, fun x hx => ?_⟩
 have h := hw x hx
 simp only [Lit.wf, Bool.and_eq_true, decide_eq_true_eq] at h
 have e1 : IntKind.u8.min = 0 := by decide
 have e2 : IntKind.u8.max = 255 := by decide
 omega
theorem name_is {x : ByteArray} (h : aK_.f 13 x = some true) : Ev (fun k => aN_.f k x) true := by
 obtain ⟨b, hb⟩ := name_ev x
 have h1 := hb 13 (by omega)
 rw [h] at h1
 obtain rfl : true = b := Option.some.inj h1
 exact ⟨13, fun k hk => (name_same k x).trans (hb k (by omega))⟩
def entV (x : Ent) : Prop := Ev (fun k => ci_.f k [x]) true
theorem entV_of {x : Ent} (hn : Ev (fun k => aN_.f k x.f0) true) (hv : vVen x.f1.f0.toList x.f1.f1 x.f1.f2 = true) : entV x := by
 have v1 : Ev (fun k => bX_.f k [x.f1]) (vVen x.f1.f0.toList x.f1.f1 x.f1.f2) := ⟨12, fun k hk => l07Ok_f x.f1 k hk⟩
 rw [hv] at v1
 have r0 : aa_ [x] 0 = x := rfl
 unfold entV
 simp only [ci_.f, r0]
 exact Ev_t (by simp) (Ev_b hn (Ev_t rfl (Ev_b v1 (Ev_n rfl))))
def okS (m : List Ent) : Prop := m.length ≤ 24 ∧ risE m ∧ ∀ y ∈ m, entV y
theorem okS.len {m : List Ent} (h : okS m) : (m.length : Int) ≤ 1048576 := by have := h.1; omega
theorem okS.ev {m : List Ent} (h : okS m) : Ev (fun k => aw_.f k m) true := by
 obtain ⟨hl, hp, ho⟩ := h
 have go : ∀ (d i : Nat), i + d = m.length → Ev (fun k => aw_.l0 k m i) true := by
  intro d
  induction d with
  | zero => intro i hi; refine bf_ ?_; simp only [aw_.l0]; exact Ev_f (by omega) (Ev_n (decide_eq_true (by omega)))
  | succ d ih =>
   intro i hi
   have h1 := ho _ (List.getElem_mem (show i < m.length by omega))
   refine bf_ ?_
   simp only [aw_.l0]
   rw [bL_ m i (by omega), wr64s i (by omega)]
   refine Ev_t (by omega) (Ev_t (by omega) (Ev_b h1 (Ev_t rfl ?_)))
   by_cases h0 : i = 0
   rotate_left
   ·have e : wrap64 ((i : Int) - 1) = ((i - 1 : Nat) : Int) := by rw [wr64 (by omega) (by omega)]; omega
    rw [e, bL_ m (i - 1) (by omega)]
    have hc : Go.Lib.compareBytes (fcE (m[i - 1]'(by omega))) (fcE (m[i]'(by omega))) < 0 := (List.pairwise_iff_getElem.1 hp) (i - 1) i (by omega) (by omega) (by omega)
    have hc2 : Op.bytesLess ((m[i - 1]'(by omega)).f0.toList) ((m[i]'(by omega)).f0.toList) = true := (less_iff _ _).2 (by simpa only [fcE, Go.ByteArray.toList_eq] using hc)
    exact Ev_t (by omega) (Ev_t (by omega) (Ev_t (by omega) (Ev_t hc2 (ih (i + 1) (by omega)))))
   exact Ev_f (by omega) (ih (i + 1) (by omega))
 simp only [aw_.f]
 exact go m.length 0 (by omega)
theorem okS.stn {m : List Ent} (h : okS m) : Stn m ∧ Ev (fun k => an_.f k m) true := by
 obtain ⟨b, e1, e2, hb⟩ := stateN_ev m h.len
 obtain rfl : b = true := Ev_one e1 h.ev
 exact ⟨hb rfl, e2⟩
theorem okS_nil : okS [] := ⟨by simp, List.Pairwise.nil, by simp⟩
theorem putE_sub (l : List Ent) (b : Ent) : ∀ y ∈ putE l b, y = b ∨ y ∈ l := by
 intro y hy
 unfold putE putG at hy
 split at hy <;> (rcases List.mem_append.1 hy with g | g; · exact Or.inr (List.mem_of_mem_take g)) <;> (rcases List.mem_cons.1 g with g | g; · exact Or.inl g) <;> exact Or.inr (List.mem_of_mem_drop g)
theorem okS.put {m : List Ent} (h : okS m) {b : Ent} (hb : entV b) (hl : (putE m b).length ≤ 24) : okS (putE m b) := by
 refine ⟨hl, putG_pw dq_ h.2.1 b, fun y hy => ?_⟩
 rcases putE_sub m b y hy with rfl | g
 ·exact hb
 ·exact h.2.2 y g
theorem okS.cut {m : List Ent} (h : okS m) (i : Nat) : okS (m.take i ++ m.drop (i + 1)) := by
 have sub : (m.take i ++ m.drop (i + 1)).Sublist m := by
  rw [← List.eraseIdx_eq_take_drop_succ]
  exact List.eraseIdx_sublist m i
 exact ⟨Nat.le_trans sub.length_le h.1, h.2.1.sublist sub, fun y hy => h.2.2 y (sub.subset hy)⟩
abbrev NS : List ByteArray := [(⟨#[97]⟩ : ByteArray), (⟨#[98]⟩ : ByteArray), (⟨#[99]⟩ : ByteArray), (⟨#[100]⟩ : ByteArray), (⟨#[101]⟩ : ByteArray), (⟨#[102]⟩ : ByteArray)]
theorem names6 (x : ByteArray) (hx : x ∈ NS) : Ev (fun k => aN_.f k x) true := by
 simp only [List.mem_cons, List.not_mem_nil, or_false] at hx
 rcases hx with rfl | rfl | rfl | rfl | rfl | rfl <;> exact name_is (by decide +kernel)
abbrev NB : List ByteArray := [(⟨#[97]⟩ : ByteArray), (⟨#[98]⟩ : ByteArray), (⟨#[99]⟩ : ByteArray), (⟨#[100]⟩ : ByteArray), (⟨#[101]⟩ : ByteArray)]
def nmG (i : Nat) : ByteArray := NB.getD i ByteArray.empty
theorem nmG_is : ∀ i, i < 5 → aK_.f 13 (nmG i) = some true := by
 intro i hi
 have h : i = 0 ∨ i = 1 ∨ i = 2 ∨ i = 3 ∨ i = 4 := by omega
 rcases h with rfl | rfl | rfl | rfl | rfl <;> decide +kernel
theorem nmG_lt : ∀ j i, j < i → i < 5 → Go.Lib.compareBytes (nmG j).data.toList (nmG i).data.toList < 0 := by
 intro j i hj hi
 have h : i = 0 ∨ i = 1 ∨ i = 2 ∨ i = 3 ∨ i = 4 := by omega
 have h2 : j = 0 ∨ j = 1 ∨ j = 2 ∨ j = 3 := by omega
 rcases h with rfl | rfl | rfl | rfl | rfl <;> rcases h2 with rfl | rfl | rfl | rfl <;> first | omega | decide +kernel
theorem state_loop (c : List Int) (hc : u8s c) : ∀ (d i : Nat) (a s : Int) (m : List Ent), i + d = 5 → m.length ≤ i → risE m → (∀ y ∈ m, entV y) → (∀ y ∈ m, ∃ j, j < i ∧ y.f0 = nmG j) → 0 ≤ a → a + 20 * d < 4611686018427300000 →
  ∃ m' a' s', Ev (fun k => ay_.l0 k NB m i c a s) (m', a', s') ∧ a ≤ a' ∧ a' ≤ a + 20 * d ∧ m'.length ≤ 5 ∧ okS m' ∧ ∀ y ∈ m', ∃ j, j < 5 ∧ y.f0 = nmG j
 | 0, i, a, s, m, h, hl, hr, he, hn, h0, h1 => ⟨m, a, s, by refine bf_ ?_; simp only [ay_.l0]; exact Ev_f (by omega) (Ev_n rfl), by omega, by omega, by omega, ⟨by omega, hr, he⟩, fun y hy => by obtain ⟨j, q1, q2⟩ := hn y hy; exact ⟨j, by omega, q2⟩⟩
 | d + 1, i, a, s, m, h, hl, hr, he, hn, h0, h1 => by
  obtain ⟨b, a1, s1, e1, p1, q1⟩ := one_ok c hc a s 2 h0 (by omega) (by omega)
  cases b with
  | false =>
   obtain ⟨m', a', s', h2, h3, h4, h5, h6, h7⟩ := state_loop c hc d (i + 1) a1 s1 m (by omega) (by omega) hr he (fun y hy => by obtain ⟨j, q1, q2⟩ := hn y hy; exact ⟨j, by omega, q2⟩) (by omega) (by omega)
   refine ⟨m', a', s', bf_ ?_, by omega, by omega, h5, h6, h7⟩
   simp only [ay_.l0]
   rw [wr64s i (by omega)]
   exact Ev_t (by omega) (Ev_b (Ev_c e1) (Ev_f (by simp) h2))
  | true =>
   obtain ⟨n, sh, g, a2, s2, e2, p2, q2, z2, hv⟩ := l07Draw_ok c hc a1 s1 (by omega) (by omega)
   have er : rdOf ByteArray.empty NB (i : Int) = nmG i := rfl
   have hx : entV (⟨nmG i, ⟨n, sh, g⟩⟩ : Ent) := entV_of (name_is (nmG_is i (by omega))) hv
   obtain ⟨m', a', s', h2, h3, h4, h5, h6, h7⟩ := state_loop c hc d (i + 1) a2 s2 (m ++ [(⟨nmG i, ⟨n, sh, g⟩⟩ : Ent)]) (by omega) (by simp; omega)
    (List.pairwise_append.2 ⟨hr, by simp, fun y hy z hz => by
     obtain rfl := List.mem_singleton.1 hz
     obtain ⟨j, hj, ej⟩ := hn y hy
     show Go.Lib.compareBytes y.f0.data.toList _ < 0
     rw [ej]
     exact nmG_lt j i hj (by omega)⟩)
    (fun y hy => by
     rcases List.mem_append.1 hy with q | q
     ·exact he y q
     ·rw [List.mem_singleton.1 q]; exact hx)
    (fun y hy => by
     rcases List.mem_append.1 hy with q | q
     ·obtain ⟨j, q1, q2⟩ := hn y q; exact ⟨j, by omega, q2⟩
     ·rw [List.mem_singleton.1 q]; exact ⟨i, by omega, rfl⟩) (by omega) (by omega)
   refine ⟨m', a', s', bf_ ?_, by omega, by omega, h5, h6, h7⟩
   simp only [ay_.l0]
   rw [wr64s i (by omega), er]
   exact Ev_t (by omega) (Ev_b (Ev_c e1) (Ev_t rfl (Ev_t (by omega) (Ev_t (by simp; omega) (Ev_b (Ev_c e2) (Ev_t (by omega) h2))))))
theorem state_at2 (c : List Int) (hc : u8s c) (a s : Int) (h0 : 0 ≤ a) (h1 : a < 4611686018427200000) : ∃ m a' s', Ev (fun k => ay_.f k c a s) (m, a', s') ∧ a ≤ a' ∧ a' ≤ a + 100 ∧ m.length ≤ 5 ∧ okS m ∧ ∀ y ∈ m, ∃ j, j < 5 ∧ y.f0 = nmG j := by
 obtain ⟨m, a', s', h2, h3, h4, h5, h6, h7⟩ := state_loop c hc 5 0 a s [] (by omega) (by simp) List.Pairwise.nil (by simp) (by simp) h0 (by omega)
 exact ⟨m, a', s', by simp only [ay_.f]; exact h2, h3, by omega, h5, h6, h7⟩
theorem state_at (c : List Int) (hc : u8s c) (a s : Int) (h0 : 0 ≤ a) (h1 : a < 4611686018427200000) : ∃ m a' s', Ev (fun k => ay_.f k c a s) (m, a', s') ∧ a ≤ a' ∧ a' ≤ a + 100 ∧ m.length ≤ 5 ∧ okS m := by
 obtain ⟨m, a', s', h2, h3, h4, h5, h6, _⟩ := state_at2 c hc a s h0 h1
 exact ⟨m, a', s', h2, h3, h4, h5, h6⟩
theorem at_ev (l : List Ent) (hl : (l.length : Int) ≤ 1048576) (u : ByteArray) : ∃ t : Int, Ev (fun k => cl_.f k l u) t ∧ (t < 0 ∨ ∃ i : Nat, t = (i : Int) ∧ i < l.length) := by
 have go : ∀ (d i : Nat), i + d = l.length → ∃ t : Int, Ev (fun k => cl_.l0 k l u i) t ∧ (t < 0 ∨ ∃ i : Nat, t = (i : Int) ∧ i < l.length) := by
  intro d
  induction d with
  | zero => intro i hi; exact ⟨-1, by refine bf_ ?_; simp only [cl_.l0]; exact Ev_f (by omega) (Ev_n rfl), Or.inl (by omega)⟩
  | succ d ih =>
   intro i hi
   obtain ⟨t, h1, h2⟩ := ih (i + 1) (by omega)
   by_cases e : (l[i]'(by omega)).f0.toList = u.toList
   rotate_left
   ·refine ⟨t, bf_ ?_, h2⟩
    simp only [cl_.l0]
    rw [bL_ l i (by omega), wr64s i (by omega)]
    exact Ev_t (by omega) (Ev_t (by omega) (Ev_f e h1))
   refine ⟨(i : Int), bf_ ?_, Or.inr ⟨i, rfl, by omega⟩⟩
   simp only [cl_.l0]
   rw [bL_ l i (by omega)]
   exact Ev_t (by omega) (Ev_t (by omega) (Ev_t e (Ev_n rfl)))
 obtain ⟨t, h1, h2⟩ := go l.length 0 (by omega)
 exact ⟨t, by simp only [cl_.f]; exact h1, h2⟩
theorem changed_loop (c : List Int) (hc : u8s c) : ∀ (n : Nat) (a s : Int) (m : List Ent), n ≤ 10 → m.length + n ≤ 24 → okS m → 0 ≤ a → a + 20 * n < 4611686018427200000 →
  ∃ m' a' s', Ev (fun k => ax_.l0 k m NS n c a s) (m', a', s') ∧ a ≤ a' ∧ a' ≤ a + 20 * n ∧ m'.length ≤ m.length + n ∧ okS m'
 | 0, a, s, m, hn, hl, hm, h0, h1 => ⟨m, a, s, by refine bf_ ?_; simp only [ax_.l0]; exact Ev_f (by simp) (Ev_n rfl), by omega, by omega, by omega, hm⟩
 | n + 1, a, s, m, hn, hl, hm, h0, h1 => by
  have hNl : NS.length = 6 := rfl
  obtain ⟨v, a1, s1, e1, p1, q1, v0, v1⟩ := pick_ok c hc a s 6 h0 (by omega) (by omega)
  have hv := v1 (by omega)
  have er : rdOf ByteArray.empty NS v = NS[v.toNat]'(by omega) := by unfold rdOf; rw [List.getD_eq_getElem?_getD, List.getElem?_eq_getElem (by omega)]; rfl
  have hmem := List.getElem_mem (show v.toNat < NS.length by omega)
  have hnm : Ev (fun k => aN_.f k (rdOf ByteArray.empty NS v)) true := by rw [er]; exact names6 _ hmem
  obtain ⟨t, et, ht⟩ := at_ev m hm.len (rdOf ByteArray.empty NS v)
  have ew : wrap64 (((n + 1 : Nat) : Int) - 1) = (n : Int) := by rw [wr64 (by omega) (by omega)]; omega
  have set_ : ∀ (a2 s2 : Int), a1 ≤ a2 → a2 ≤ a1 + 2 → ∃ m' a' s', Ev (fun k => ax_.j1 k m NS ((n + 1 : Nat) : Int) (rdOf ByteArray.empty NS v) t false c a2 s2) (m', a', s') ∧ a ≤ a' ∧ a' ≤ a + 20 * ((n + 1 : Nat) : Int) ∧ m'.length ≤ m.length + (n + 1) ∧ okS m' := by
   intro a2 s2 g1 g2
   obtain ⟨nm, sh, g, a3, s3, e3, p3, q3, _, hvv⟩ := l07Draw_ok c hc a2 s2 (by omega) (by omega)
   have pl := (putG_len (c := Go.Lib.compareBytes) (key := fcE) m (⟨(rdOf ByteArray.empty NS v), ⟨nm, sh, g⟩⟩ : Ent)).1
   have ok2 : okS (putE m (⟨(rdOf ByteArray.empty NS v), ⟨nm, sh, g⟩⟩ : Ent)) := hm.put (entV_of hnm hvv) (by unfold putE; omega)
   obtain ⟨m', a', s', h2, h3, h4, h5, h6⟩ := changed_loop c hc n a3 s3 (putE m (⟨(rdOf ByteArray.empty NS v), ⟨nm, sh, g⟩⟩ : Ent)) (by omega) (by unfold putE; omega) ok2 (by omega) (by omega)
   refine ⟨m', a', s', bf_ ?_, by omega, by omega, by unfold putE at h5; omega, h6⟩
   simp only [ax_.j1, ew]
   exact Ev_f (by decide) (Ev_b (Ev_c e3) (Ev_b (setE_ev m hm.len (⟨(rdOf ByteArray.empty NS v), ⟨nm, sh, g⟩⟩ : Ent) (rsgG dq_ hm.2.1 _)) h2))
  by_cases c0 : t ≥ 0
  rotate_left
  ·obtain ⟨m', a', s', h2, h3, h4, h5, h6⟩ := set_ a1 s1 (by omega) (by omega)
   refine ⟨m', a', s', bf_ ?_, h3, h4, h5, h6⟩
   simp only [ax_.l0]
   exact Ev_t (by omega) (Ev_b (Ev_c e1) (Ev_t v0 (Ev_t (by dsimp only; omega) (Ev_b et (Ev_f c0 h2)))))
  obtain ⟨i, rfl, hi⟩ : ∃ i : Nat, t = (i : Int) ∧ i < m.length := by
   rcases ht with g | g
   ·omega
   ·exact g
  obtain ⟨b, a2, s2, e2, p2, q2⟩ := one_ok c hc a1 s1 2 (by omega) (by omega) (by omega)
  cases b with
  | false =>
   obtain ⟨m', a', s', h2, h3, h4, h5, h6⟩ := set_ a2 s2 p2 q2
   refine ⟨m', a', s', bf_ ?_, h3, h4, h5, h6⟩
   simp only [ax_.l0]
   exact Ev_t (by omega) (Ev_b (Ev_c e1) (Ev_t v0 (Ev_t (by dsimp only; omega) (Ev_b et (Ev_t c0 (Ev_b (Ev_c e2) h2))))))
  | true =>
   have hml := hm.1
   obtain ⟨m', a', s', h2, h3, h4, h5, h6⟩ := changed_loop c hc n a2 s2 (m.take i ++ m.drop (i + 1)) (by omega) (by simp; omega) (hm.cut i) (by omega) (by omega)
   refine ⟨m', a', s', bf_ ?_, by omega, by omega, by simp at h5; omega, h6⟩
   simp only [ax_.l0]
   refine Ev_t (by omega) (Ev_b (Ev_c e1) (Ev_t v0 (Ev_t (by dsimp only; omega) (Ev_b et (Ev_t c0 (Ev_b (Ev_c e2) (bf_ ?_)))))))
   simp only [ax_.j1, ew]
   rw [wr64s i (by omega)]
   refine Ev_t (by trivial) (Ev_s (Ev_t (by omega) (Ev_t (by omega) (Ev_s (Ev_t (by simp; omega) (Ev_s (Ev_t (by omega) (Ev_t (by omega) (Ev_s (Ev_t (by simp; omega) ?_))))))))))
   rw [List.nil_append]
   exact h2
theorem changed_at (c : List Int) (hc : u8s c) (a s : Int) (m : List Ent) (hm : okS m) (hl : m.length ≤ 20) (h0 : 0 ≤ a) (h1 : a < 4611686018427100000) : ∃ m' a' s', Ev (fun k => ax_.f k c a s m) (m', a', s') ∧ a ≤ a' ∧ a' ≤ a + 70 ∧ m'.length ≤ m.length + 3 ∧ okS m' := by
 obtain ⟨v, a1, s1, e1, p1, q1, v0, v1⟩ := pick_ok c hc a s 4 h0 (by omega) (by omega)
 have hv := v1 (by omega)
 obtain ⟨m', a', s', h2, h3, h4, h5, h6⟩ := changed_loop c hc v.toNat a1 s1 m (by omega) (by omega) hm (by omega) (by omega)
 rw [show ((v.toNat : Nat) : Int) = v by omega] at h2
 refine ⟨m', a', s', ?_, by omega, by omega, by omega, h6⟩
 simp only [ax_.f]
 refine Ev_s (Ev_t (by simp; omega) (Ev_b (Ev_c e1) ?_))
 rw [List.nil_append]
 exact h2
theorem state_draw2 (c : List Int) (hc : u8s c) : ∃ m, Ev (fun k => cL_.f k c) m ∧ okS m ∧ m.length ≤ 5 ∧ ∀ y ∈ m, ∃ j, j < 5 ∧ y.f0 = nmG j := by
 obtain ⟨m, a', s', h2, _, _, h5, h6, h7⟩ := state_at2 c hc 0 0 (by omega) (by omega)
 refine ⟨m, ?_, h6, h5, h7⟩
 simp only [cL_.f]
 exact Ev_b (a := (c, 0, 0)) (Ev_c rfl) (Ev_b h2 (Ev_n rfl))
theorem changed_draw2 (c : List Int) (hc : u8s c) (m : List Ent) (hm : okS m) (hl : m.length ≤ 20) : ∃ m', Ev (fun k => co_.f k c m) m' ∧ okS m' ∧ m'.length ≤ m.length + 3 := by
 obtain ⟨m', a', s', h2, _, _, h5, h6⟩ := changed_at c hc 0 0 m hm hl (by omega) (by omega)
 refine ⟨m', ?_, h6, h5⟩
 simp only [co_.f]
 exact Ev_b (a := (c, 0, 0)) (Ev_c rfl) (Ev_b h2 (Ev_n rfl))
theorem note_is (x : ByteArray) (hs : x.size ≤ 20) (hb : ∀ i : Nat, i < x.size → 32 ≤ bt x i ∧ bt x i ≤ 126) : Ev (fun k => bb_.f k x) true := by
 have go : ∀ (d i : Nat), i + d = x.size → Ev (fun k => bb_.l0 k x i) true := by
  intro d
  induction d with
  | zero => intro i hi; refine bf_ ?_; simp only [bb_.l0]; exact Ev_f (by omega) (Ev_n (decide_eq_true (by omega)))
  | succ d ih =>
   intro i hi
   have := hb i (by omega)
   refine bf_ ?_
   simp only [bb_.l0]
   rw [wr64s i (by omega)]
   exact Ev_t (by omega) (Ev_t (by omega) (Ev_f (by omega) (Ev_f (by omega) (ih (i + 1) (by omega)))))
 simp only [bb_.f]
 exact go x.size 0 (by omega)
def okP (m : List Ver) : Prop := m.length ≤ 16 ∧ ∀ (i : Nat) (hi : i < m.length), m[i].f0 = (i : Int) + 1 ∧ 0 ≤ m[i].f1 ∧ m[i].f1 ≤ i ∧ (m[i].f2.size ≤ 20 ∧ Ev (fun k => bb_.f k m[i].f2) true) ∧ okS m[i].f3
theorem okP.len {m : List Ver} (h : okP m) : (m.length : Int) ≤ 1048576 := by have := h.1; omega
theorem okP.w {m : List Ver} (h : okP m) : ∀ y ∈ m, (y.f2.size : Int) ≤ 1048576 ∧ (y.f3.length : Int) ≤ 1048576 := by
 intro y hy
 obtain ⟨i, hi, rfl⟩ := List.mem_iff_getElem.1 hy
 obtain ⟨_, _, _, ⟨h1, _⟩, h2⟩ := h.2 i hi
 exact ⟨by omega, h2.len⟩
theorem okP.ev {m : List Ver} (h : okP m) : Ev (fun k => bC_.f k m) true := by
 obtain ⟨hl, ho⟩ := h
 have go : ∀ (d i : Nat), i + d = m.length → Ev (fun k => bC_.l0 k m i) true := by
  intro d
  induction d with
  | zero => intro i hi; refine bf_ ?_; simp only [bC_.l0]; exact Ev_f (by omega) (Ev_n (decide_eq_true (by omega)))
  | succ d ih =>
   intro i hi
   obtain ⟨h1, h2, h3, ⟨_, h4⟩, h5⟩ := ho i (by omega)
   refine bf_ ?_
   simp only [bC_.l0]
   rw [cg_ m i (by omega), wr64s i (by omega)]
   have hin : bY_.f (m[i]'(by omega)).f1 0 (i : Int) = some true := by rw [in_f]; simp; omega
   exact Ev_t (by omega) (Ev_t (by omega) (Ev_t (by rw [h1]; omega) (Ev_b (Ev_c hin) (Ev_t rfl (Ev_b h4 (Ev_t rfl (Ev_b h5.ev (Ev_t rfl (ih (i + 1) (by omega))))))))))
 simp only [bC_.f]
 exact go m.length 0 (by omega)
theorem okP.prj {m : List Ver} (h : okP m) : Prj m ∧ Ev (fun k => aD_.f k m) true ∧ ∀ y ∈ m, Vst y.f3 := by
 obtain ⟨b, e1, e2, hb⟩ := projectN_ev m h.len h.w
 obtain rfl : b = true := Ev_one e1 h.ev
 exact ⟨(hb rfl).1, e2, (hb rfl).2⟩
theorem okP.snoc {m : List Ver} (h : okP m) (hl : m.length < 16) {v : Ver} (h0 : v.f0 = (m.length : Int) + 1) (h1 : 0 ≤ v.f1) (h2 : v.f1 ≤ m.length) (h3 : v.f2.size ≤ 20) (h4 : Ev (fun k => bb_.f k v.f2) true) (h5 : okS v.f3) : okP (m ++ [v]) := by
 refine ⟨by simp; omega, fun i hi => ?_⟩
 by_cases c : i < m.length
 rotate_left
 ·have : i = m.length := by simp at hi; omega
  subst this
  rw [List.getElem_append_right (by omega)]
  simp only [Nat.sub_self, List.getElem_cons_zero]
  exact ⟨h0, h1, h2, ⟨h3, h4⟩, h5⟩
 rw [List.getElem_append_left c]; exact h.2 i c
theorem notes3 (x : ByteArray) (hx : x ∈ [(⟨#[]⟩ : ByteArray), (⟨#[110, 101, 119]⟩ : ByteArray), (⟨#[97, 32, 98]⟩ : ByteArray)]) : x.size ≤ 20 ∧ Ev (fun k => bb_.f k x) true := by
 simp only [List.mem_cons, List.not_mem_nil, or_false] at hx
 rcases hx with rfl | rfl | rfl <;> exact ⟨by decide, note_is _ (by decide) (by decide +kernel)⟩
theorem project_loop (c : List Int) (hc : u8s c) : ∀ (n : Nat) (a s : Int) (m : List Ver), m.length + n ≤ 5 → okP m → (∀ y ∈ m, y.f3.length ≤ 5 + 3 * m.length) → 0 ≤ a → a + 400 * n < 4611686018427000000 →
  ∃ m' a' s', Ev (fun k => by_.l0 k m n c a s) (m', a', s') ∧ okP m' ∧ m'.length ≤ 5
 | 0, a, s, m, hl, hm, hs, h0, h1 => ⟨m, a, s, by refine bf_ ?_; simp only [by_.l0]; exact Ev_f (by simp) (Ev_n rfl), hm, by omega⟩
 | n + 1, a, s, m, hl, hm, hs, h0, h1 => by
  obtain ⟨v, a1, s1, e1, p1, q1, v0, v1⟩ := pick_ok c hc a s ((m.length : Int) + 1) h0 (by omega) (by omega)
  have hv := v1 (by omega)
  obtain ⟨st, a2, s2, e2, p2, q2, l2, o2⟩ := state_at c hc a1 s1 (by omega) (by omega)
  have ew : wrap64 (((n + 1 : Nat) : Int) - 1) = (n : Int) := by rw [wr64 (by omega) (by omega)]; omega
  have el : wrap64 ((m.length : Int) + 1) = (m.length : Int) + 1 := wr64 (by omega) (by omega)
  have fin : ∀ (X : List Ent) (a3 s3 : Int), okS X → X.length ≤ 8 + 3 * m.length → a ≤ a3 → a3 ≤ a + 200 → ∃ nt a4 s4, bP_.f c a3 s3 [(⟨#[]⟩ : ByteArray), (⟨#[110, 101, 119]⟩ : ByteArray), (⟨#[97, 32, 98]⟩ : ByteArray)] = some (nt, a4, s4) ∧ ∃ m' a' s', Ev (fun k => by_.l0 k (m ++ [(⟨(m.length : Int) + 1, v, nt, X⟩ : Ver)]) n c a4 s4) (m', a', s') ∧ okP m' ∧ m'.length ≤ 5 := by
   intro X a3 s3 oX lX g1 g2
   obtain ⟨nt, a4, s4, e4, p4, q4, hnt⟩ := text_ok c hc a3 s3 [(⟨#[]⟩ : ByteArray), (⟨#[110, 101, 119]⟩ : ByteArray), (⟨#[97, 32, 98]⟩ : ByteArray)] (by omega) (by omega) (by simp) (by simp)
   obtain ⟨z1, z2⟩ := notes3 nt hnt
   refine ⟨nt, a4, s4, e4, project_loop c hc n a4 s4 _ (by simp; omega) (hm.snoc (by omega) rfl v0 (by dsimp only; omega) z1 z2 oX) (fun y hy => ?_) (by omega) (by omega)⟩
   rw [List.length_append]
   rcases List.mem_append.1 hy with q | q
   ·have := hs y q; simp; omega
   ·rw [List.mem_singleton.1 q]; simp; omega
  by_cases c0 : v > 0
  rotate_left
  ·obtain ⟨nt, a4, s4, e4, m', a', s', h2, h3, h4⟩ := fin st a2 s2 o2 (by omega) (by omega) (by omega)
   refine ⟨m', a', s', bf_ ?_, h3, h4⟩
   simp only [by_.l0, ew, el]
   exact Ev_t (by omega) (Ev_b (Ev_c e1) (Ev_b e2 (Ev_f c0 (Ev_b (Ev_c e4) (Ev_t (by omega) h2)))))
  have ev1 : wrap64 (v - 1) = ((v.toNat - 1 : Nat) : Int) := by rw [wr64 (by omega) (by omega)]; omega
  have hi : v.toNat - 1 < m.length := by omega
  have sl := hs _ (List.getElem_mem hi)
  obtain ⟨X, a3, s3, e3, p3, q3, l3, o3⟩ := changed_at c hc a2 s2 (m[v.toNat - 1]).f3 (hm.2 _ hi).2.2.2.2 (by omega) (by omega) (by omega)
  obtain ⟨nt, a4, s4, e4, m', a', s', h2, h3, h4⟩ := fin X a3 s3 o3 (by omega) (by omega) (by omega)
  refine ⟨m', a', s', bf_ ?_, h3, h4⟩
  simp only [by_.l0, ew, el]
  refine Ev_t (by omega) (Ev_b (Ev_c e1) (Ev_b e2 (Ev_t c0 ?_)))
  dsimp only
  rw [ev1, cg_ m _ hi]
  exact Ev_t (by omega) (Ev_t (by omega) (Ev_b e3 (Ev_b (Ev_c e4) (Ev_t (by omega) h2))))
theorem project_draw (c : List Int) (hc : u8s c) : ∃ m, Ev (fun k => cq_.f k c) m ∧ okP m ∧ m.length ≤ 5 := by
 obtain ⟨v, a1, s1, e1, p1, q1, v0, v1⟩ := pick_ok c hc 0 0 6 (by omega) (by omega) (by omega)
 have hv := v1 (by omega)
 obtain ⟨m', a', s', h2, h3, h4⟩ := project_loop c hc v.toNat a1 s1 [] (by simp; omega) ⟨by simp, by simp⟩ (by simp) (by omega) (by omega)
 rw [show ((v.toNat : Nat) : Int) = v by omega] at h2
 refine ⟨m', ?_, h3, h4⟩
 simp only [cq_.f]
 refine Ev_b (a := (c, 0, 0)) (Ev_c rfl) (Ev_b (a := (m', a', s')) ?_ (Ev_n rfl))
 simp only [by_.f]
 exact Ev_b (Ev_c e1) h2
theorem gE_in (m : List Ent) (u : ByteArray) : gE m u = zE ∨ gE m u ∈ m := by
 cases h : fnd (fun x => Go.Lib.compareBytes (fcE x) u.data.toList) m with
 | true => obtain ⟨hp, e, _⟩ := gE_at m u h; rw [e]; exact Or.inr (List.getElem_mem hp)
 | false => left; unfold gE; rw [if_neg (by rw [h]; decide)]
theorem fc_irr (x : Ent) : ¬ Go.Lib.compareBytes (fcE x) (fcE x) < 0 := by have := (dq_.zero (fcE x) (fcE x)).2 rfl; omega
theorem fc_asym {x y : Ent} (h : Go.Lib.compareBytes (fcE x) (fcE y) < 0) : ¬ Go.Lib.compareBytes (fcE y) (fcE x) < 0 := fun h2 => by
 have := dq_.trans _ _ _ h h2
 have h3 := (dq_.zero (fcE x) (fcE x)).2 rfl
 omega
theorem ris_uniq {m : List Ent} (hp : risE m) {y z : Ent} (hy : y ∈ m) (hz : z ∈ m) (h : fcE y = fcE z) : y = z := by
 obtain ⟨i, hi, rfl⟩ := List.mem_iff_getElem.1 hy
 obtain ⟨j, hj, rfl⟩ := List.mem_iff_getElem.1 hz
 rcases Nat.lt_trichotomy i j with g | g | g
 ·have := (List.pairwise_iff_getElem.1 hp) i j hi hj g; rw [h] at this; exact absurd this (fc_irr _)
 ·subst g; rfl
 ·have := (List.pairwise_iff_getElem.1 hp) j i hj hi g; rw [h] at this; exact absurd this (fc_irr _)
theorem ris_ext : ∀ (l m : List Ent), risE l → risE m → (∀ x, x ∈ l ↔ x ∈ m) → l = m
 | [], [], _, _, _ => rfl
 | [], y :: m, _, _, h => by have := (h y).2 List.mem_cons_self; cases this
 | x :: l, [], _, _, h => by have := (h x).1 List.mem_cons_self; cases this
 | x :: l, y :: m, h1, h2, h => by
  obtain ⟨a1, a2⟩ := List.pairwise_cons.1 h1
  obtain ⟨b1, b2⟩ := List.pairwise_cons.1 h2
  have e : x = y := by
   rcases List.mem_cons.1 ((h x).1 List.mem_cons_self) with e | e
   ·exact e
   ·rcases List.mem_cons.1 ((h y).2 List.mem_cons_self) with e' | e'
    ·exact e'.symm
    ·exact absurd (a1 y e') (fc_asym (b1 x e))
  subst e
  congr 1
  refine ris_ext l m a2 b2 (fun z => ⟨fun hz => ?_, fun hz => ?_⟩)
  ·rcases List.mem_cons.1 ((h z).1 (List.mem_cons_of_mem _ hz)) with e | e
   ·subst e; exact absurd (a1 z hz) (fc_irr z)
   ·exact e
  ·rcases List.mem_cons.1 ((h z).2 (List.mem_cons_of_mem _ hz)) with e | e
   ·subst e; exact absurd (b1 z hz) (fc_irr z)
   ·exact e
def par (m : List Ver) (a : Nat) : Nat := match m[a - 1]? with
 | some v => v.f1.toNat
 | none => 0
def chn (m : List Ver) : Nat → Nat → List Int
 | 0, _ => []
 | n + 1, a => if a = 0 then [] else (a : Int) :: chn m n (par m a)
theorem par_at {m : List Ver} (h : okP m) (a : Nat) (h1 : 1 ≤ a) (h2 : a ≤ m.length) : par m a < a ∧ (m[a - 1]'(by omega)).f1 = (par m a : Int) := by
 obtain ⟨_, g1, g2, _⟩ := h.2 (a - 1) (by omega)
 have e : par m a = (m[a - 1]'(by omega)).f1.toNat := by unfold par; rw [List.getElem?_eq_getElem (show a - 1 < m.length by omega)]
 exact ⟨by rw [e]; omega, by rw [e]; omega⟩
theorem chn_fuel {m : List Ver} (h : okP m) : ∀ (n a : Nat), a ≤ n → a ≤ m.length → chn m n a = chn m a a
 | 0, a, h1, h2 => by
  obtain rfl : a = 0 := by omega
  rfl
 | n + 1, a, h1, h2 => by
  by_cases h0 : a = 0
  rotate_left
  ·obtain ⟨b, rfl⟩ : ∃ b, a = b + 1 := ⟨a - 1, by omega⟩
   obtain ⟨p, _⟩ := par_at h (b + 1) (by omega) h2
   simp only [chn, if_neg h0]
   rw [chn_fuel h n (par m (b + 1)) (by omega) (by omega), chn_fuel h b (par m (b + 1)) (by omega) (by omega)]
  subst h0; simp [chn]
theorem chn_step {m : List Ver} (h : okP m) (a : Nat) (h1 : 1 ≤ a) (h2 : a ≤ m.length) : chn m a a = (a : Int) :: chn m (par m a) (par m a) := by
 obtain ⟨b, rfl⟩ : ∃ b, a = b + 1 := ⟨a - 1, by omega⟩
 obtain ⟨p, _⟩ := par_at h (b + 1) h1 h2
 have e := chn_fuel h b (par m (b + 1)) (by omega) (by omega)
 simp only [chn, if_neg (show ¬ b + 1 = 0 by omega), e]
theorem chn_in {m : List Ver} (h : okP m) : ∀ (n a : Nat), a ≤ n → a ≤ m.length → (chn m a a).length ≤ a ∧ (∀ x ∈ chn m a a, 1 ≤ x ∧ x ≤ (a : Int)) ∧ (chn m a a).Pairwise (fun x y => y < x)
 | 0, a, h1, h2 => by
  obtain rfl : a = 0 := by omega
  simp [chn]
 | n + 1, a, h1, h2 => by
  by_cases h0 : a = 0
  rotate_left
  ·obtain ⟨p, _⟩ := par_at h a (by omega) h2
   obtain ⟨i1, i2, i3⟩ := chn_in h n (par m a) (by omega) (by omega)
   rw [chn_step h a (by omega) h2]
   refine ⟨by simp; omega, fun x hx => ?_, List.pairwise_cons.2 ⟨fun x hx => ?_, i3⟩⟩
   ·rcases List.mem_cons.1 hx with rfl | g
    ·omega
    ·have := i2 x g; omega
   ·have := i2 x hx; omega
  subst h0; simp [chn]
abbrev Bs (l : List UInt8) : ByteArray := ⟨l.toArray⟩
theorem Bs_size (l : List UInt8) : (Bs l).size = l.length := by simp [ByteArray.size]
def its (n : Int) : ByteArray := Bs (Go.Lib.itoa n)
theorem Decimal_f (n : Int) (h0 : -9223372036854775808 ≤ n) (h1 : n ≤ 9223372036854775807) : bO_.f n = some (its n) := by
 unfold bO_.f cf_.f
 rw [if_pos ⟨rfl, h0, h1⟩]
 rfl
end Go.Proofs.YtiheginanghhjaaDoor.Q
