/- The statement FnExactMaterialOf: for all pictures and rates the program and the reference give the same cost of the veneers and the same code; what is handed over stays as it is. This text holds the functions' walks and the words for them. -/
import Derived.Test.YtpjhnchfhghlcaaKFnExactMaterialOfa
import Derived.Test.YtpjhnchfhghlcaaKFnExactMaterialOfd
import Derived.Test.YtpjhnchfhghlcaaKFnExactMaterialOfe
set_option linter.unusedVariables false
set_option linter.unusedSimpArgs false
namespace Go.Proofs.Ytpjhnchfhghlcaa.Q
open Go.RowKit Go.Proofs.YtpjhnchfhghlcaaW.PrintWords Go.Proofs.YtpjhnchfhghlcaaW.PrintLast Go.Proofs.YtpjhnchfhghlcaaW.PrintMore
attribute [local go_sem] aB_ aE_ aN_ aO_ ax_ aw_ aD_ aC_
def cp_.f (a0 : ByteArray) : Option (Int × Int × Int × Int) := if a0.toList = ([97, 115, 104] : List UInt8) then (some (20, 40, 310, 0)) else (if a0.toList = ([98, 101, 101, 99, 104] : List UInt8) then (some (35, 45, 410, 0)) else (if a0.toList = ([98, 105, 114, 99, 104] : List UInt8) then (some (15, 33, 280, 0)) else (if a0.toList = ([99, 104, 101, 114, 114, 121] : List UInt8) then (some (50, 36, 240, 0)) else (if a0.toList = ([101, 98, 111, 110, 121] : List UInt8) then (some (95, 85, 270, 0)) else (if a0.toList = ([104, 111, 108, 108, 121] : List UInt8) then (some (5, 35, 370, 0)) else (if a0.toList = ([109, 97, 112, 108, 101] : List UInt8) then (some (10, 42, 290, 0)) else (if a0.toList = ([111, 97, 107] : List UInt8) then (some (40, 40, 330, 0)) else (if a0.toList = ([114, 111, 115, 101, 119, 111, 111, 100] : List UInt8) then (some (80, 60, 220, 0)) else (if a0.toList = ([119, 97, 108, 110, 117, 116] : List UInt8) then (some (70, 38, 260, 0)) else (some (0, 0, 0, 3)))))))))))
set_option maxHeartbeats 8000000 in
set_option maxRecDepth 100000 in
theorem cp_.calls (a0 : ByteArray) (r1 : Int) (r2 : Int) (r3 : Int) (r4 : Int) (w : World) (h : cp_.f a0 = some (r1, r2, r3, r4)) :
  Calls Try.prog 83 #[.string a0] w fun e w' => e = .returned (.tuple #[.int .i64 r1, .int .i64 r2, .int .i64 r3, .int .i64 r4]) ∧ as_ w w' := by
 have H : (if a0.toList = ([97, 115, 104] : List UInt8) then (some (20, 40, 310, 0)) else (if a0.toList = ([98, 101, 101, 99, 104] : List UInt8) then (some (35, 45, 410, 0)) else (if a0.toList = ([98, 105, 114, 99, 104] : List UInt8) then (some (15, 33, 280, 0)) else (if a0.toList = ([99, 104, 101, 114, 114, 121] : List UInt8) then (some (50, 36, 240, 0)) else (if a0.toList = ([101, 98, 111, 110, 121] : List UInt8) then (some (95, 85, 270, 0)) else (if a0.toList = ([104, 111, 108, 108, 121] : List UInt8) then (some (5, 35, 370, 0)) else (if a0.toList = ([109, 97, 112, 108, 101] : List UInt8) then (some (10, 42, 290, 0)) else (if a0.toList = ([111, 97, 107] : List UInt8) then (some (40, 40, 330, 0)) else (if a0.toList = ([114, 111, 115, 101, 119, 111, 111, 100] : List UInt8) then (some (80, 60, 220, 0)) else (if a0.toList = ([119, 97, 108, 110, 117, 116] : List UInt8) then (some (70, 38, 260, 0)) else (some (0, 0, 0, 3)))))))))))) = some (r1, r2, r3, r4) := h
 clear h
 by_cases c2 : a0.toList = ([97, 115, 104] : List UInt8)
 rotate_left
 ·rw [if_neg c2] at H
  have c2b0 : (a0.toList == ([97, 115, 104] : List UInt8)) = false := beq_eq_false_iff_ne.mpr c2
  have c2b1 : (a0.toList != ([97, 115, 104] : List UInt8)) = true := bne_iff_ne.mpr c2
  by_cases c3 : a0.toList = ([98, 101, 101, 99, 104] : List UInt8)
  rotate_left
  ·rw [if_neg c3] at H
   have c3b0 : (a0.toList == ([98, 101, 101, 99, 104] : List UInt8)) = false := beq_eq_false_iff_ne.mpr c3
   have c3b1 : (a0.toList != ([98, 101, 101, 99, 104] : List UInt8)) = true := bne_iff_ne.mpr c3
   by_cases c4 : a0.toList = ([98, 105, 114, 99, 104] : List UInt8)
   rotate_left
   ·rw [if_neg c4] at H
    have c4b0 : (a0.toList == ([98, 105, 114, 99, 104] : List UInt8)) = false := beq_eq_false_iff_ne.mpr c4
    have c4b1 : (a0.toList != ([98, 105, 114, 99, 104] : List UInt8)) = true := bne_iff_ne.mpr c4
    by_cases c5 : a0.toList = ([99, 104, 101, 114, 114, 121] : List UInt8)
    rotate_left
    ·rw [if_neg c5] at H
     have c5b0 : (a0.toList == ([99, 104, 101, 114, 114, 121] : List UInt8)) = false := beq_eq_false_iff_ne.mpr c5
     have c5b1 : (a0.toList != ([99, 104, 101, 114, 114, 121] : List UInt8)) = true := bne_iff_ne.mpr c5
     by_cases c6 : a0.toList = ([101, 98, 111, 110, 121] : List UInt8)
     rotate_left
     ·rw [if_neg c6] at H
      have c6b0 : (a0.toList == ([101, 98, 111, 110, 121] : List UInt8)) = false := beq_eq_false_iff_ne.mpr c6
      have c6b1 : (a0.toList != ([101, 98, 111, 110, 121] : List UInt8)) = true := bne_iff_ne.mpr c6
      by_cases c7 : a0.toList = ([104, 111, 108, 108, 121] : List UInt8)
      rotate_left
      ·rw [if_neg c7] at H
       have c7b0 : (a0.toList == ([104, 111, 108, 108, 121] : List UInt8)) = false := beq_eq_false_iff_ne.mpr c7
       have c7b1 : (a0.toList != ([104, 111, 108, 108, 121] : List UInt8)) = true := bne_iff_ne.mpr c7
       by_cases c8 : a0.toList = ([109, 97, 112, 108, 101] : List UInt8)
       rotate_left
       ·rw [if_neg c8] at H
        have c8b0 : (a0.toList == ([109, 97, 112, 108, 101] : List UInt8)) = false := beq_eq_false_iff_ne.mpr c8
        have c8b1 : (a0.toList != ([109, 97, 112, 108, 101] : List UInt8)) = true := bne_iff_ne.mpr c8
        by_cases c9 : a0.toList = ([111, 97, 107] : List UInt8)
        rotate_left
        ·rw [if_neg c9] at H
         have c9b0 : (a0.toList == ([111, 97, 107] : List UInt8)) = false := beq_eq_false_iff_ne.mpr c9
         have c9b1 : (a0.toList != ([111, 97, 107] : List UInt8)) = true := bne_iff_ne.mpr c9
         by_cases c10 : a0.toList = ([114, 111, 115, 101, 119, 111, 111, 100] : List UInt8)
         rotate_left
         ·rw [if_neg c10] at H
          have c10b0 : (a0.toList == ([114, 111, 115, 101, 119, 111, 111, 100] : List UInt8)) = false := beq_eq_false_iff_ne.mpr c10
          have c10b1 : (a0.toList != ([114, 111, 115, 101, 119, 111, 111, 100] : List UInt8)) = true := bne_iff_ne.mpr c10
          by_cases c11 : a0.toList = ([119, 97, 108, 110, 117, 116] : List UInt8)
          rotate_left
          ·rw [if_neg c11] at H
           have c11b0 : (a0.toList == ([119, 97, 108, 110, 117, 116] : List UInt8)) = false := beq_eq_false_iff_ne.mpr c11
           have c11b1 : (a0.toList != ([119, 97, 108, 110, 117, 116] : List UInt8)) = true := bne_iff_ne.mpr c11
           simp only [Option.some.injEq, Prod.mk.injEq] at H
           obtain ⟨rfl, rfl, rfl, rfl⟩ := H
           go_enter Try.func83, Try.ntmps83
           go_wp2
           refine bodyPost_ret (cb_ (rs := [.tmp 2, .tmp 3, .tmp 4, .tmp 5]) rfl (by simp) (.tmp (.tmp (.tmp (.tmp .nil))))) rfl ?_
           exact ⟨by first | rfl | (simp; done) | (simp [*]; done), by repeat (first | exact as_.refl _ | apply as_.step)⟩
          rw [if_pos c11] at H
          have c11b0 : (a0.toList == ([119, 97, 108, 110, 117, 116] : List UInt8)) = true := beq_iff_eq.mpr c11
          have c11b1 : (a0.toList != ([119, 97, 108, 110, 117, 116] : List UInt8)) = false := bne_eq_false_iff_eq.mpr c11
          clear c11
          simp only [Option.some.injEq, Prod.mk.injEq] at H
          obtain ⟨rfl, rfl, rfl, rfl⟩ := H
          go_enter Try.func83, Try.ntmps83
          go_wp2
          refine bodyPost_ret (cb_ (rs := [.tmp 2, .tmp 3, .tmp 4, .tmp 5]) rfl (by simp) (.tmp (.tmp (.tmp (.tmp .nil))))) rfl ?_
          exact ⟨by first | rfl | (simp; done) | (simp [*]; done), by repeat (first | exact as_.refl _ | apply as_.step)⟩
         rw [if_pos c10] at H
         have c10b0 : (a0.toList == ([114, 111, 115, 101, 119, 111, 111, 100] : List UInt8)) = true := beq_iff_eq.mpr c10
         have c10b1 : (a0.toList != ([114, 111, 115, 101, 119, 111, 111, 100] : List UInt8)) = false := bne_eq_false_iff_eq.mpr c10
         clear c10
         simp only [Option.some.injEq, Prod.mk.injEq] at H
         obtain ⟨rfl, rfl, rfl, rfl⟩ := H
         go_enter Try.func83, Try.ntmps83
         go_wp2
         refine bodyPost_ret (cb_ (rs := [.tmp 2, .tmp 3, .tmp 4, .tmp 5]) rfl (by simp) (.tmp (.tmp (.tmp (.tmp .nil))))) rfl ?_
         exact ⟨by first | rfl | (simp; done) | (simp [*]; done), by repeat (first | exact as_.refl _ | apply as_.step)⟩
        rw [if_pos c9] at H
        have c9b0 : (a0.toList == ([111, 97, 107] : List UInt8)) = true := beq_iff_eq.mpr c9
        have c9b1 : (a0.toList != ([111, 97, 107] : List UInt8)) = false := bne_eq_false_iff_eq.mpr c9
        clear c9
        simp only [Option.some.injEq, Prod.mk.injEq] at H
        obtain ⟨rfl, rfl, rfl, rfl⟩ := H
        go_enter Try.func83, Try.ntmps83
        go_wp2
        refine bodyPost_ret (cb_ (rs := [.tmp 2, .tmp 3, .tmp 4, .tmp 5]) rfl (by simp) (.tmp (.tmp (.tmp (.tmp .nil))))) rfl ?_
        exact ⟨by first | rfl | (simp; done) | (simp [*]; done), by repeat (first | exact as_.refl _ | apply as_.step)⟩
       rw [if_pos c8] at H
       have c8b0 : (a0.toList == ([109, 97, 112, 108, 101] : List UInt8)) = true := beq_iff_eq.mpr c8
       have c8b1 : (a0.toList != ([109, 97, 112, 108, 101] : List UInt8)) = false := bne_eq_false_iff_eq.mpr c8
       clear c8
       simp only [Option.some.injEq, Prod.mk.injEq] at H
       obtain ⟨rfl, rfl, rfl, rfl⟩ := H
       go_enter Try.func83, Try.ntmps83
       go_wp2
       refine bodyPost_ret (cb_ (rs := [.tmp 2, .tmp 3, .tmp 4, .tmp 5]) rfl (by simp) (.tmp (.tmp (.tmp (.tmp .nil))))) rfl ?_
       exact ⟨by first | rfl | (simp; done) | (simp [*]; done), by repeat (first | exact as_.refl _ | apply as_.step)⟩
      rw [if_pos c7] at H
      have c7b0 : (a0.toList == ([104, 111, 108, 108, 121] : List UInt8)) = true := beq_iff_eq.mpr c7
      have c7b1 : (a0.toList != ([104, 111, 108, 108, 121] : List UInt8)) = false := bne_eq_false_iff_eq.mpr c7
      clear c7
      simp only [Option.some.injEq, Prod.mk.injEq] at H
      obtain ⟨rfl, rfl, rfl, rfl⟩ := H
      go_enter Try.func83, Try.ntmps83
      go_wp2
      refine bodyPost_ret (cb_ (rs := [.tmp 2, .tmp 3, .tmp 4, .tmp 5]) rfl (by simp) (.tmp (.tmp (.tmp (.tmp .nil))))) rfl ?_
      exact ⟨by first | rfl | (simp; done) | (simp [*]; done), by repeat (first | exact as_.refl _ | apply as_.step)⟩
     rw [if_pos c6] at H
     have c6b0 : (a0.toList == ([101, 98, 111, 110, 121] : List UInt8)) = true := beq_iff_eq.mpr c6
     have c6b1 : (a0.toList != ([101, 98, 111, 110, 121] : List UInt8)) = false := bne_eq_false_iff_eq.mpr c6
     clear c6
     simp only [Option.some.injEq, Prod.mk.injEq] at H
     obtain ⟨rfl, rfl, rfl, rfl⟩ := H
     go_enter Try.func83, Try.ntmps83
     go_wp2
     refine bodyPost_ret (cb_ (rs := [.tmp 2, .tmp 3, .tmp 4, .tmp 5]) rfl (by simp) (.tmp (.tmp (.tmp (.tmp .nil))))) rfl ?_
     exact ⟨by first | rfl | (simp; done) | (simp [*]; done), by repeat (first | exact as_.refl _ | apply as_.step)⟩
    rw [if_pos c5] at H
    have c5b0 : (a0.toList == ([99, 104, 101, 114, 114, 121] : List UInt8)) = true := beq_iff_eq.mpr c5
    have c5b1 : (a0.toList != ([99, 104, 101, 114, 114, 121] : List UInt8)) = false := bne_eq_false_iff_eq.mpr c5
    clear c5
    simp only [Option.some.injEq, Prod.mk.injEq] at H
    obtain ⟨rfl, rfl, rfl, rfl⟩ := H
    go_enter Try.func83, Try.ntmps83
    go_wp2
    refine bodyPost_ret (cb_ (rs := [.tmp 2, .tmp 3, .tmp 4, .tmp 5]) rfl (by simp) (.tmp (.tmp (.tmp (.tmp .nil))))) rfl ?_
    exact ⟨by first | rfl | (simp; done) | (simp [*]; done), by repeat (first | exact as_.refl _ | apply as_.step)⟩
   rw [if_pos c4] at H
   have c4b0 : (a0.toList == ([98, 105, 114, 99, 104] : List UInt8)) = true := beq_iff_eq.mpr c4
   have c4b1 : (a0.toList != ([98, 105, 114, 99, 104] : List UInt8)) = false := bne_eq_false_iff_eq.mpr c4
   clear c4
   simp only [Option.some.injEq, Prod.mk.injEq] at H
   obtain ⟨rfl, rfl, rfl, rfl⟩ := H
   go_enter Try.func83, Try.ntmps83
   go_wp2
   refine bodyPost_ret (cb_ (rs := [.tmp 2, .tmp 3, .tmp 4, .tmp 5]) rfl (by simp) (.tmp (.tmp (.tmp (.tmp .nil))))) rfl ?_
   exact ⟨by first | rfl | (simp; done) | (simp [*]; done), by repeat (first | exact as_.refl _ | apply as_.step)⟩
  rw [if_pos c3] at H
  have c3b0 : (a0.toList == ([98, 101, 101, 99, 104] : List UInt8)) = true := beq_iff_eq.mpr c3
  have c3b1 : (a0.toList != ([98, 101, 101, 99, 104] : List UInt8)) = false := bne_eq_false_iff_eq.mpr c3
  clear c3
  simp only [Option.some.injEq, Prod.mk.injEq] at H
  obtain ⟨rfl, rfl, rfl, rfl⟩ := H
  go_enter Try.func83, Try.ntmps83
  go_wp2
  refine bodyPost_ret (cb_ (rs := [.tmp 2, .tmp 3, .tmp 4, .tmp 5]) rfl (by simp) (.tmp (.tmp (.tmp (.tmp .nil))))) rfl ?_
  exact ⟨by first | rfl | (simp; done) | (simp [*]; done), by repeat (first | exact as_.refl _ | apply as_.step)⟩
 rw [if_pos c2] at H
 have c2b0 : (a0.toList == ([97, 115, 104] : List UInt8)) = true := beq_iff_eq.mpr c2
 have c2b1 : (a0.toList != ([97, 115, 104] : List UInt8)) = false := bne_eq_false_iff_eq.mpr c2
 clear c2
 simp only [Option.some.injEq, Prod.mk.injEq] at H
 obtain ⟨rfl, rfl, rfl, rfl⟩ := H
 go_enter Try.func83, Try.ntmps83
 go_wp2
 refine bodyPost_ret (cb_ (rs := [.tmp 2, .tmp 3, .tmp 4, .tmp 5]) rfl (by simp) (.tmp (.tmp (.tmp (.tmp .nil))))) rfl ?_
 exact ⟨by first | rfl | (simp; done) | (simp [*]; done), by repeat (first | exact as_.refl _ | apply as_.step)⟩
def bH_.f (a0 : ByteArray) : Option (Int × Bool) := (cp_.f a0).bind fun bt101 => (some (bt101.1, (bt101.2.2.2 == 0)))
set_option maxHeartbeats 8000000 in
set_option maxRecDepth 100000 in
theorem bH_.calls (a0 : ByteArray) (r1 : Int) (r2 : Bool) (w : World) (h : bH_.f a0 = some (r1, r2)) :
  Calls Try.prog 71 #[.string a0] w fun e w' => e = .returned (.tuple #[.int .i64 r1, .bool r2]) ∧ as_ w w' := by
 have H : ((cp_.f a0).bind fun bt101 => (some (bt101.1, (bt101.2.2.2 == 0)))) = some (r1, r2) := h
 clear h
 replace H := Option.bind_eq_some_iff.mp H
 obtain ⟨⟨t101, t102, t103, t104⟩, A20, H⟩ := H
 (try dsimp only at H)
 have A2 := Aside0.mk A20
 clear A20
 simp only [Option.some.injEq, Prod.mk.injEq] at H
 obtain ⟨rfl, rfl⟩ := H
 go_enter Try.func71, Try.ntmps71
 go_wp2_with (first | ((with_reducible refine an_ (f := 83) rfl ?_); refine aU_ (some 10) rfl rfl Try.func83 (by kernel_rfl) rfl #[.string a0] rfl (by first | rfl | (simp only [lma_, lmc_, lmn_]; first | done | rfl)) ?_; (with_reducible refine (cp_.calls a0 t101 t102 t103 t104 _ A2.out).mono ?_); rintro e w' ⟨rfl, ⟨nd, rfl⟩⟩; refine ⟨_, rfl, ?_⟩))
 go_ret2
 exact ⟨by first | rfl | (simp; done) | (simp [*]; done), by repeat (first | exact as_.refl _ | apply as_.step)⟩
def ce_.f (a0_0 : ByteArray) (a0_1 : Int) (a0_2 : Int) : Option (Bool) := (bH_.f a0_0).bind fun bt102 => (if bt102.2 = true then ((am_.f a0_1 0 100).bind fun t104 => (if t104 = true then ((am_.f (wrap64 (a0_1 - bt102.1)) (-15) 15).bind fun t105 => (if t105 = true then ((am_.f a0_2 0 179).bind fun t106 => (some t106)) else (some false))) else (some false))) else (some false))
set_option maxHeartbeats 8000000 in
set_option maxRecDepth 100000 in
theorem ce_.calls (a0_0 : ByteArray) (a0_1 : Int) (a0_2 : Int) (r : Bool) (w : World) (h : ce_.f a0_0 a0_1 a0_2 = some r) :
  Calls Try.prog 57 #[.agg #[.string a0_0, .int .i64 a0_1, .int .i64 a0_2]] w fun e w' => e = .returned (.bool r) ∧ Below w.heap.size w w' := by
 have hu56 := Try.underlying56
 have HB := Aside0.mk (Below.refl w.heap.size w)
 have H : ((bH_.f a0_0).bind fun bt102 => (if bt102.2 = true then ((am_.f a0_1 0 100).bind fun t104 => (if t104 = true then ((am_.f (wrap64 (a0_1 - bt102.1)) (-15) 15).bind fun t105 => (if t105 = true then ((am_.f a0_2 0 179).bind fun t106 => (some t106)) else (some false))) else (some false))) else (some false))) = some r := h
 clear h
 replace H := Option.bind_eq_some_iff.mp H
 obtain ⟨⟨t102, t103⟩, A20, H⟩ := H
 (try dsimp only at H)
 have A2 := Aside0.mk A20
 clear A20
 by_cases c3 : t103 = true
 rotate_left
 ·replace c3 := Bool.eq_false_iff.mpr c3
  subst c3
  have H1 : (some false) = some r := by rw [if_neg (show ¬ (false = true) by decide)] at H; exact H
  clear H
  have H := H1
  clear H1
  obtain rfl := Option.some.inj H
  go_enter Try.func57, Try.ntmps57
  go_wp2_with (first | ((with_reducible refine al_ (N := 1) rfl ?_); refine ak_ ?hg (N := 1) ?hd (cs := #[.string a0_0, .int .i64 a0_1, .int .i64 a0_2]) (t := 56) ?hr ?_; (case hd => rfl); (case hg => rfl); (case hr => (go_simp; try rfl)); intro gb101 hg w15 hbox hb; have BK101 := Aside0.mk (hbox); have GW101 := Aside0.mk ((by rw [hg]; exact (ae_ (bz HB.out)) : w.heap.size ≤ gb101)); have GE101 := GW101; replace HB := Aside0.mk (ad_ (bz HB.out) hb); clear hb hbox hg; obtain ⟨hcz16_0, hcz16_1, hcz16_2⟩ := cz3_ BK101.out; obtain ⟨hfz16_0, hfz16_1, hfz16_2⟩ := fz3_ BK101.out) | ((with_reducible refine an_ (f := 71) rfl ?_); refine aU_ (some 8) rfl rfl Try.func71 (by kernel_rfl) rfl #[.string a0_0] rfl (by first | rfl | (simp only [lma_, lmc_, lmn_]; first | done | rfl)) ?_; (with_reducible refine (bH_.calls a0_0 t102 false _ A2.out).mono ?_); rintro e w' ⟨rfl, ⟨nd, rfl⟩⟩; refine ⟨_, rfl, ?_⟩))
  go_ret
  exact ⟨by first | rfl | (simp [*, ah_, ai_] <;> rfl), bq⟩
 subst c3
 have H1 : ((am_.f a0_1 0 100).bind fun t104 => (if t104 = true then ((am_.f (wrap64 (a0_1 - t102)) (-15) 15).bind fun t105 => (if t105 = true then ((am_.f a0_2 0 179).bind fun t106 => (some t106)) else (some false))) else (some false))) = some r := by rw [if_pos rfl] at H; exact H
 clear H
 have H := H1
 clear H1
 replace H := Option.bind_eq_some_iff.mp H
 obtain ⟨t104, A40, H⟩ := H
 (try dsimp only at H)
 have A4 := Aside0.mk A40
 clear A40
 by_cases c5 : t104 = true
 rotate_left
 ·replace c5 := Bool.eq_false_iff.mpr c5
  subst c5
  have H1 : (some false) = some r := by rw [if_neg (show ¬ (false = true) by decide)] at H; exact H
  clear H
  have H := H1
  clear H1
  obtain rfl := Option.some.inj H
  go_enter Try.func57, Try.ntmps57
  go_wp2_with (first | ((with_reducible refine al_ (N := 1) rfl ?_); refine ak_ ?hg (N := 1) ?hd (cs := #[.string a0_0, .int .i64 a0_1, .int .i64 a0_2]) (t := 56) ?hr ?_; (case hd => rfl); (case hg => rfl); (case hr => (go_simp; try rfl)); intro gb101 hg w13 hbox hb; have BK101 := Aside0.mk (hbox); have GW101 := Aside0.mk ((by rw [hg]; exact (ae_ (bz HB.out)) : w.heap.size ≤ gb101)); have GE101 := GW101; replace HB := Aside0.mk (ad_ (bz HB.out) hb); clear hb hbox hg; obtain ⟨hcz14_0, hcz14_1, hcz14_2⟩ := cz3_ BK101.out; obtain ⟨hfz14_0, hfz14_1, hfz14_2⟩ := fz3_ BK101.out) | ((with_reducible refine an_ (f := 71) rfl ?_); refine aU_ (some 8) rfl rfl Try.func71 (by kernel_rfl) rfl #[.string a0_0] rfl (by first | rfl | (simp only [lma_, lmc_, lmn_]; first | done | rfl)) ?_; (with_reducible refine (bH_.calls a0_0 t102 true _ A2.out).mono ?_); rintro e w' ⟨rfl, ⟨nd, rfl⟩⟩; refine ⟨_, rfl, ?_⟩) | (go_at_call 39; (with_reducible refine (am_.calls a0_1 0 100 false _ A4.out).mono ?_); rintro e w' ⟨rfl, ⟨nd, rfl⟩⟩))
  go_ret
  exact ⟨by first | rfl | (simp [*, ah_, ai_] <;> rfl), bq⟩
 subst c5
 have H1 : ((am_.f (wrap64 (a0_1 - t102)) (-15) 15).bind fun t105 => (if t105 = true then ((am_.f a0_2 0 179).bind fun t106 => (some t106)) else (some false))) = some r := by rw [if_pos rfl] at H; exact H
 clear H
 have H := H1
 clear H1
 replace H := Option.bind_eq_some_iff.mp H
 obtain ⟨t105, A60, H⟩ := H
 (try dsimp only at H)
 have A6 := Aside0.mk A60
 clear A60
 by_cases c7 : t105 = true
 rotate_left
 ·replace c7 := Bool.eq_false_iff.mpr c7
  subst c7
  have H1 : (some false) = some r := by rw [if_neg (show ¬ (false = true) by decide)] at H; exact H
  clear H
  have H := H1
  clear H1
  obtain rfl := Option.some.inj H
  go_enter Try.func57, Try.ntmps57
  go_wp2_with (first | ((with_reducible refine al_ (N := 1) rfl ?_); refine ak_ ?hg (N := 1) ?hd (cs := #[.string a0_0, .int .i64 a0_1, .int .i64 a0_2]) (t := 56) ?hr ?_; (case hd => rfl); (case hg => rfl); (case hr => (go_simp; try rfl)); intro gb101 hg w11 hbox hb; have BK101 := Aside0.mk (hbox); have GW101 := Aside0.mk ((by rw [hg]; exact (ae_ (bz HB.out)) : w.heap.size ≤ gb101)); have GE101 := GW101; replace HB := Aside0.mk (ad_ (bz HB.out) hb); clear hb hbox hg; obtain ⟨hcz12_0, hcz12_1, hcz12_2⟩ := cz3_ BK101.out; obtain ⟨hfz12_0, hfz12_1, hfz12_2⟩ := fz3_ BK101.out) | ((with_reducible refine an_ (f := 71) rfl ?_); refine aU_ (some 8) rfl rfl Try.func71 (by kernel_rfl) rfl #[.string a0_0] rfl (by first | rfl | (simp only [lma_, lmc_, lmn_]; first | done | rfl)) ?_; (with_reducible refine (bH_.calls a0_0 t102 true _ A2.out).mono ?_); rintro e w' ⟨rfl, ⟨nd, rfl⟩⟩; refine ⟨_, rfl, ?_⟩) | (go_at_call 39; (with_reducible refine (am_.calls a0_1 0 100 true _ A4.out).mono ?_); rintro e w' ⟨rfl, ⟨nd, rfl⟩⟩) | (go_at_call 39; (with_reducible refine (am_.calls (wrap64 (a0_1 - t102)) (-15) 15 false _ A6.out).mono ?_); rintro e w' ⟨rfl, ⟨nd, rfl⟩⟩))
  go_ret
  exact ⟨by first | rfl | (simp [*, ah_, ai_] <;> rfl), bq⟩
 subst c7
 have H1 : ((am_.f a0_2 0 179).bind fun t106 => (some t106)) = some r := by rw [if_pos rfl] at H; exact H
 clear H
 have H := H1
 clear H1
 replace H := Option.bind_eq_some_iff.mp H
 obtain ⟨t106, A80, H⟩ := H
 (try dsimp only at H)
 have A8 := Aside0.mk A80
 clear A80
 obtain rfl := Option.some.inj H
 go_enter Try.func57, Try.ntmps57
 go_wp2_with (first | ((with_reducible refine al_ (N := 1) rfl ?_); refine ak_ ?hg (N := 1) ?hd (cs := #[.string a0_0, .int .i64 a0_1, .int .i64 a0_2]) (t := 56) ?hr ?_; (case hd => rfl); (case hg => rfl); (case hr => (go_simp; try rfl)); intro gb101 hg w9 hbox hb; have BK101 := Aside0.mk (hbox); have GW101 := Aside0.mk ((by rw [hg]; exact (ae_ (bz HB.out)) : w.heap.size ≤ gb101)); have GE101 := GW101; replace HB := Aside0.mk (ad_ (bz HB.out) hb); clear hb hbox hg; obtain ⟨hcz10_0, hcz10_1, hcz10_2⟩ := cz3_ BK101.out; obtain ⟨hfz10_0, hfz10_1, hfz10_2⟩ := fz3_ BK101.out) | ((with_reducible refine an_ (f := 71) rfl ?_); refine aU_ (some 8) rfl rfl Try.func71 (by kernel_rfl) rfl #[.string a0_0] rfl (by first | rfl | (simp only [lma_, lmc_, lmn_]; first | done | rfl)) ?_; (with_reducible refine (bH_.calls a0_0 t102 true _ A2.out).mono ?_); rintro e w' ⟨rfl, ⟨nd, rfl⟩⟩; refine ⟨_, rfl, ?_⟩) | (go_at_call 39; (with_reducible refine (am_.calls a0_1 0 100 true _ A4.out).mono ?_); rintro e w' ⟨rfl, ⟨nd, rfl⟩⟩) | (go_at_call 39; (with_reducible refine (am_.calls (wrap64 (a0_1 - t102)) (-15) 15 true _ A6.out).mono ?_); rintro e w' ⟨rfl, ⟨nd, rfl⟩⟩) | (go_at_call 39; (with_reducible refine (am_.calls a0_2 0 179 t106 _ A8.out).mono ?_); rintro e w' ⟨rfl, ⟨nd, rfl⟩⟩))
 go_ret
 exact ⟨by first | rfl | (simp [*, ah_, ai_] <;> rfl), bq⟩
def bY_.f (a0_0 : ByteArray) (a0_1 : Int) (a0_2 : Int) : Option (Bool) := (ce_.f a0_0 a0_1 a0_2).bind fun t102 => (some (!t102))
set_option maxHeartbeats 8000000 in
set_option maxRecDepth 100000 in
theorem bY_.calls (a0_0 : ByteArray) (a0_1 : Int) (a0_2 : Int) (r : Bool) (w : World) (h : bY_.f a0_0 a0_1 a0_2 = some r) :
  Calls Try.prog 56 #[.agg #[.string a0_0, .int .i64 a0_1, .int .i64 a0_2]] w fun e w' => e = .returned (.bool r) ∧ Below w.heap.size w w' := by
 have hu56 := Try.underlying56
 have HB := Aside0.mk (Below.refl w.heap.size w)
 have H : ((ce_.f a0_0 a0_1 a0_2).bind fun t102 => (some (!t102))) = some r := h
 clear h
 replace H := Option.bind_eq_some_iff.mp H
 obtain ⟨t102, A20, H⟩ := H
 (try dsimp only at H)
 have A2 := Aside0.mk A20
 clear A20
 obtain rfl := Option.some.inj H
 go_enter Try.func56, Try.ntmps56
 go_wp2_with (first | ((with_reducible refine al_ (N := 1) rfl ?_); refine ak_ ?hg (N := 1) ?hd (cs := #[.string a0_0, .int .i64 a0_1, .int .i64 a0_2]) (t := 56) ?hr ?_; (case hd => rfl); (case hg => rfl); (case hr => (go_simp; try rfl)); intro gb101 hg w3 hbox hb; have BK101 := Aside0.mk (hbox); have GW101 := Aside0.mk ((by rw [hg]; exact (ae_ (bz HB.out)) : w.heap.size ≤ gb101)); have GE101 := GW101; replace HB := Aside0.mk (ad_ (bz HB.out) hb); clear hb hbox hg; obtain ⟨hcz4_0, hcz4_1, hcz4_2⟩ := cz3_ BK101.out; obtain ⟨hfz4_0, hfz4_1, hfz4_2⟩ := fz3_ BK101.out) | ((with_reducible refine an_ (f := 57) rfl ?_); refine aU_ (some 4) rfl rfl Try.func57 (by kernel_rfl) rfl #[.agg #[.string a0_0, .int .i64 a0_1, .int .i64 a0_2]] rfl (by first | rfl | (simp only [lma_, lmc_, lmn_]; first | done | rfl)) ?_; (with_reducible refine (ce_.calls a0_0 a0_1 a0_2 t102 _ A2.out).mono ?_); rintro e w5 ⟨rfl, hb⟩; refine ⟨_, rfl, ?_⟩; replace BK101 := Aside0.mk (aa_ (kz BK101.out) hb); replace HB := Aside0.mk (ad_ (bq) hb); (try clear hb)))
 go_ret
 exact ⟨by first | rfl | (simp [*, ah_, ai_] <;> rfl), bq⟩
def bi_.l0 : Nat → List (S56) → Int → Int → Option (Int)
 | 0, _, _, _ => none
 | k + 1, x0, x7, x8 => if x8 < x7 then (if 0 ≤ x8 then (if x8 < (x0.length : Int) then ((bY_.f ((aR_ x0 x8).f0) ((aR_ x0 x8).f1) ((aR_ x0 x8).f2)).bind fun t102 => (if t102 = true then (some x8) else (bi_.l0 k x0 x7 (wrap64 (x8 + 1))))) else (none)) else (none)) else (some (-1))
def bi_.f (k : Nat) (l0 : List (S56))  : Option (Int) := bi_.l0 k l0 (l0.length : Int) 0
set_option maxHeartbeats 8000000 in
set_option maxRecDepth 100000 in
theorem bi_.calls (k : Nat) (A0 : Option Addr) (c0 : Nat) (l0 : List (S56))  (r : Int) (w : World) (hr0 : Kd.C k56 w A0 l0.length l0) (hc0 : l0.length ≤ c0) (h : bi_.f k l0 = some r) :
  Calls Try.prog 70 #[.slice A0 l0.length c0, .func (.func 56) #[] #[]] w fun e w' => e = .returned (.int .i64 r) ∧ Below w.heap.size w w' := by
 have hu56 := Try.underlying56
 have HR0 := Aside0.mk hr0
 have HC0 := Aside0.mk hc0
 clear hr0 hc0
 have HB := Aside0.mk (Below.refl w.heap.size w)
 have H : (bi_.l0 k l0 (l0.length : Int) 0) = some r := h
 clear h
 have H' := Aside0.mk H
 clear H
 go_enter Try.func70, Try.ntmps70
 go_wp2
 (try simp only [Act.put, lsa_, ls0_, ls1_])
 go_loopg [8] k (fun kq v8 w' => ∃ (x8_1 : Int), v8 = .int .i64 x8_1 ∧ Aside0 (bi_.l0 kq l0 (l0.length : Int) x8_1 = some r) ∧ Aside0 (kq ≤ k) ∧ Aside0 (Below w.heap.size w w'))
 case atStart => exact ⟨(0), (by first | rfl | (simp; done) | (simp [*]; done)), H', ⟨Nat.le_refl _⟩, ⟨bz HB.out⟩⟩
 case round =>
  clear H'
  obtain ⟨x8_1, rfl, HA, HK1, HB⟩ := hrel
  cases gk with
  | zero => exact absurd HA.out (by simp [bi_.l0])
  | succ k1 =>
   have H := HA.out
   clear HA
   simp only [bi_.l0] at H
   by_cases c3 : x8_1 < (l0.length : Int)
   rotate_left
   ·rw [if_neg c3] at H
    have c3b0 : decide (x8_1 < (l0.length : Int)) = false := decide_eq_false c3
    clear c3
    obtain rfl := Option.some.inj H
    go_wp2
    go_ret
    exact ⟨by first | rfl | (simp [*, ah_, ai_] <;> rfl), bz HB.out⟩
   rw [if_pos c3] at H
   have c3b0 : decide (x8_1 < (l0.length : Int)) = true := decide_eq_true c3
   clear c3
   by_cases c4 : 0 ≤ x8_1
   rotate_left
   ·rw [if_neg c4] at H
    exact absurd H (by simp)
   rw [if_pos c4] at H
   have c4b0 : decide (0 ≤ x8_1) = true := decide_eq_true c4
   clear c4
   by_cases c5 : x8_1 < (l0.length : Int)
   rotate_left
   ·rw [if_neg c5] at H
    exact absurd H (by simp)
   rw [if_pos c5] at H
   have c5b0 : decide (x8_1 < (l0.length : Int)) = true := decide_eq_true c5
   clear c5
   replace H := Option.bind_eq_some_iff.mp H
   obtain ⟨t102, A60, H⟩ := H
   (try dsimp only at H)
   have A6 := Aside0.mk A60
   clear A60
   have HC7 := Aside0.mk H
   clear H
   have p101 : 0 ≤ (x8_1 : Int) := of_decide_eq_true (by assumption)
   have q101 : x8_1 < (l0.length : Int) := of_decide_eq_true (by assumption)
   obtain ⟨ad101, e101, hx101_0, hx101_1, hx101_2⟩ := at_T56 HR0.out x8_1 p101 q101
   cases e101
   replace hx101_0 := bu_ HB.out hx101_0
   replace hx101_1 := bu_ HB.out hx101_1
   replace hx101_2 := bu_ HB.out hx101_2
   replace p101 := eq_true p101
   replace q101 := eq_true q101
   go_upto_if 16 with (first | (go_at_call 56; (with_reducible refine (bY_.calls ((aR_ l0 x8_1).f0) ((aR_ l0 x8_1).f1) ((aR_ l0 x8_1).f2) t102 _ A6.out).mono ?_); rintro e w8 ⟨rfl, hb⟩; replace HB := Aside0.mk (ad_ (bz HB.out) hb); (try clear hb)))
   (try simp only [Act.put, lsa_, ls0_, ls1_])
   have H := HC7.out
   clear HC7
   by_cases c9 : t102 = true
   rotate_left
   ·replace c9 := Bool.eq_false_iff.mpr c9
    subst c9
    have H1 : (bi_.l0 k1 l0 (l0.length : Int) (wrap64 (x8_1 + 1))) = some r := by rw [if_neg (show ¬ (false = true) by decide)] at H; exact H
    clear H
    have H := H1
    clear H1
    have H' := Aside0.mk H
    clear H
    go_wp2
    go_roundg k1
    case measure => have := HK1.out; omega
    case rel => exact ⟨(wrap64 (x8_1 + 1)), (by first | rfl | (simp; done) | (simp [*]; done)), H', ⟨by have := HK1.out; omega⟩, ⟨bz HB.out⟩⟩
   subst c9
   have H1 : (some x8_1) = some r := by rw [if_pos rfl] at H; exact H
   clear H
   have H := H1
   clear H1
   obtain rfl := Option.some.inj H
   go_wp2
   go_ret
   exact ⟨by first | rfl | (simp [*, ah_, ai_] <;> rfl), bz HB.out⟩
def cv_.f (k : Nat) (l0 : List (S56))  : Option (Bool) := (bi_.f k l0).bind fun t101 => (some (decide (t101 ≥ 0)))
set_option maxHeartbeats 8000000 in
set_option maxRecDepth 100000 in
theorem cv_.calls (k : Nat) (A0 : Option Addr) (c0 : Nat) (l0 : List (S56))  (r : Bool) (w : World) (hr0 : Kd.C k56 w A0 l0.length l0) (hc0 : l0.length ≤ c0) (h : cv_.f k l0 = some r) :
  Calls Try.prog 55 #[.slice A0 l0.length c0, .func (.func 56) #[] #[]] w fun e w' => e = .returned (.bool r) ∧ Below w.heap.size w w' := by
 have HR0 := Aside0.mk hr0
 have HC0 := Aside0.mk hc0
 clear hr0 hc0
 have HB := Aside0.mk (Below.refl w.heap.size w)
 have H : ((bi_.f k l0).bind fun t101 => (some (decide (t101 ≥ 0)))) = some r := h
 clear h
 replace H := Option.bind_eq_some_iff.mp H
 obtain ⟨t101, A30, H⟩ := H
 (try dsimp only at H)
 have A3 := Aside0.mk A30
 clear A30
 obtain rfl := Option.some.inj H
 go_enter Try.func55, Try.ntmps55
 go_wp2_with (first | ((with_reducible refine an_ (f := 70) rfl ?_); refine aU_ (some 7) rfl rfl Try.func70 (by kernel_rfl) rfl #[.slice A0 l0.length c0, .func (.func 56) #[] #[]] rfl (by first | rfl | (simp only [lma_, lmc_, lmn_]; first | done | rfl)) ?_; (with_reducible refine (bi_.calls k _ _ l0  t101 _ ?side1 ?side2 A3.out).mono ?_); (case side1 => exact cz HR0.out); (case side2 => exact HC0.out); rintro e w4 ⟨rfl, hb⟩; refine ⟨_, rfl, ?_⟩; replace HB := Aside0.mk (ad_ (bz HB.out) hb); (try clear hb)))
 go_ret
 exact ⟨by first | rfl | (simp [*, ah_, ai_] <;> rfl), bz HB.out⟩
def bU_.f (k : Nat) (l0 : List (S56)) : Option (Bool) := (cv_.f k l0).bind fun t101 => (some (!t101))
set_option maxHeartbeats 8000000 in
set_option maxRecDepth 100000 in
theorem bU_.calls (k : Nat) (A0 : Option Addr) (c0 : Nat) (l0 : List (S56)) (r : Bool) (w : World) (hr0 : Kd.C k56 w A0 l0.length l0) (hc0 : l0.length ≤ c0) (h : bU_.f k l0 = some r) :
  Calls Try.prog 38 #[.slice A0 l0.length c0] w fun e w' => e = .returned (.bool r) ∧ Below w.heap.size w w' := by
 have HR0 := Aside0.mk hr0
 have HC0 := Aside0.mk hc0
 clear hr0 hc0
 have HB := Aside0.mk (Below.refl w.heap.size w)
 have H : ((cv_.f k l0).bind fun t101 => (some (!t101))) = some r := h
 clear h
 replace H := Option.bind_eq_some_iff.mp H
 obtain ⟨t101, A20, H⟩ := H
 (try dsimp only at H)
 have A2 := Aside0.mk A20
 clear A20
 obtain rfl := Option.some.inj H
 go_enter Try.func38, Try.ntmps38
 go_wp2_with (first | ((with_reducible refine an_ (f := 55) rfl ?_); refine aU_ (some 4) rfl rfl Try.func55 (by kernel_rfl) rfl #[.slice A0 l0.length c0, .func (.func 56) #[] #[]] rfl (by first | rfl | (simp only [lma_, lmc_, lmn_]; first | done | rfl)) ?_; (with_reducible refine (cv_.calls k _ _ l0  t101 _ ?side1 ?side2 A2.out).mono ?_); (case side1 => exact cz HR0.out); (case side2 => exact HC0.out); rintro e w3 ⟨rfl, hb⟩; refine ⟨_, rfl, ?_⟩; replace HB := Aside0.mk (ad_ (bz HB.out) hb); (try clear hb)))
 go_ret
 exact ⟨by first | rfl | (simp [*, ah_, ai_] <;> rfl), bz HB.out⟩
def bP_.f (k : Nat) (a0_0 : Int) (a0_1 : Int) (l0_2 : List (S81)) (l0_3 : List (S85)) (l0_4 : List (S56)) : Option (Bool) := (af_.f k a0_0 a0_1 l0_2 l0_3).bind fun t102 => (if t102 = true then (if (l0_4.length : Int) = (l0_3.length : Int) then ((bU_.f k l0_4).bind fun t103 => (some t103)) else (some false)) else (some false))
set_option maxHeartbeats 8000000 in
set_option maxRecDepth 100000 in
theorem bP_.calls (k : Nat) (a0_0 : Int) (a0_1 : Int) (A0_2 : Option Addr) (c0_2 : Nat) (l0_2 : List (S81)) (A0_3 : Option Addr) (c0_3 : Nat) (l0_3 : List (S85)) (A0_4 : Option Addr) (c0_4 : Nat) (l0_4 : List (S56)) (r : Bool) (w : World) (hr0_2 : Kd.C k81 w A0_2 l0_2.length l0_2) (hc0_2 : l0_2.length ≤ c0_2) (hr0_3 : Kd.C k85 w A0_3 l0_3.length l0_3) (hc0_3 : l0_3.length ≤ c0_3) (hr0_4 : Kd.C k56 w A0_4 l0_4.length l0_4) (hc0_4 : l0_4.length ≤ c0_4) (h : bP_.f k a0_0 a0_1 l0_2 l0_3 l0_4 = some r) :
  Calls Try.prog 16 #[.agg #[.int .i64 a0_0, .int .i64 a0_1, .slice A0_2 l0_2.length c0_2, .slice A0_3 l0_3.length c0_3, .slice A0_4 l0_4.length c0_4]] w fun e w' => e = .returned (.bool r) ∧ Below w.heap.size w w' := by
 have hu40 := Try.underlying40
 have hu37 := Try.underlying37
 have HR0_2 := Aside0.mk hr0_2
 have HC0_2 := Aside0.mk hc0_2
 clear hr0_2 hc0_2
 have HR0_3 := Aside0.mk hr0_3
 have HC0_3 := Aside0.mk hc0_3
 clear hr0_3 hc0_3
 have HR0_4 := Aside0.mk hr0_4
 have HC0_4 := Aside0.mk hc0_4
 clear hr0_4 hc0_4
 have HB := Aside0.mk (Below.refl w.heap.size w)
 have H : ((af_.f k a0_0 a0_1 l0_2 l0_3).bind fun t102 => (if t102 = true then (if (l0_4.length : Int) = (l0_3.length : Int) then ((bU_.f k l0_4).bind fun t103 => (some t103)) else (some false)) else (some false))) = some r := h
 clear h
 replace H := Option.bind_eq_some_iff.mp H
 obtain ⟨t102, A20, H⟩ := H
 (try dsimp only at H)
 have A2 := Aside0.mk A20
 clear A20
 by_cases c3 : t102 = true
 rotate_left
 ·replace c3 := Bool.eq_false_iff.mpr c3
  subst c3
  have H1 : (some false) = some r := by rw [if_neg (show ¬ (false = true) by decide)] at H; exact H
  clear H
  have H := H1
  clear H1
  obtain rfl := Option.some.inj H
  go_enter Try.func16, Try.ntmps16
  go_wp2_with (first | ((with_reducible refine al_ (N := 1) rfl ?_); (try (refine bT_ (by rfl) ?_; dsimp only)); refine ak_ ?hg (N := 1) ?hd (cs := #[.int .i64 a0_0, .int .i64 a0_1, .slice A0_2 l0_2.length c0_2, .slice A0_3 l0_3.length c0_3, .slice A0_4 l0_4.length c0_4]) (t := 40) ?hr ?_; (case hd => rfl); (case hg => rfl); (case hr => (go_simp; try rfl)); intro gb101 hg w15 hbox hb; have BK101 := Aside0.mk (hbox); have GW101 := Aside0.mk ((by rw [hg]; exact (ae_ (bz HB.out)) : w.heap.size ≤ gb101)); have GE101 := GW101; replace HB := Aside0.mk (ad_ (bz HB.out) hb); clear hb hbox hg; obtain ⟨hcz16_0, hcz16_1, hcz16_2, hcz16_3, hcz16_4⟩ := cz5_ BK101.out; obtain ⟨hfz16_0, hfz16_1, hfz16_2, hfz16_3, hfz16_4⟩ := fz5_ BK101.out) | ((with_reducible refine an_ (f := 37) rfl ?_); refine aU_ (some 5) rfl rfl Try.func37 (by kernel_rfl) rfl #[.agg #[.int .i64 a0_0, .int .i64 a0_1, .slice A0_2 l0_2.length c0_2, .slice A0_3 l0_3.length c0_3]] rfl (by first | rfl | (simp only [lma_, lmc_, lmn_]; first | done | rfl)) ?_; (with_reducible refine (af_.calls k a0_0 a0_1 _ _ l0_2 _ _ l0_3 false _ ?side1 ?side2 ?side3 ?side4 A2.out).mono ?_); (case side1 => exact cz (Kd.aF_ HR0_2.out HB.out)); (case side2 => exact HC0_2.out); (case side3 => exact cz (Kd.aF_ HR0_3.out HB.out)); (case side4 => exact HC0_3.out); rintro e w17 ⟨rfl, hb⟩; refine ⟨_, rfl, ?_⟩; replace BK101 := Aside0.mk (aa_ (kz BK101.out) hb); replace HB := Aside0.mk (ad_ (bq) hb); (try clear hb)))
  go_ret
  exact ⟨by first | rfl | (simp [*, ah_, ai_] <;> rfl), bq⟩
 subst c3
 have H1 : (if (l0_4.length : Int) = (l0_3.length : Int) then ((bU_.f k l0_4).bind fun t103 => (some t103)) else (some false)) = some r := by rw [if_pos rfl] at H; exact H
 clear H
 have H := H1
 clear H1
 by_cases c4 : (l0_4.length : Int) = (l0_3.length : Int)
 rotate_left
 ·rw [if_neg c4] at H
  have c4b0 : ((l0_4.length : Int) == (l0_3.length : Int)) = false := beq_eq_false_iff_ne.mpr c4
  have c4b1 : ((l0_4.length : Int) != (l0_3.length : Int)) = true := bne_iff_ne.mpr c4
  have c4b2 : (l0_4.length == l0_3.length) = false := by first | simpa using c4 | (simp at c4 ⊢; omega)
  obtain rfl := Option.some.inj H
  go_enter Try.func16, Try.ntmps16
  go_wp2_with (first | ((with_reducible refine al_ (N := 1) rfl ?_); (try (refine bT_ (by rfl) ?_; dsimp only)); refine ak_ ?hg (N := 1) ?hd (cs := #[.int .i64 a0_0, .int .i64 a0_1, .slice A0_2 l0_2.length c0_2, .slice A0_3 l0_3.length c0_3, .slice A0_4 l0_4.length c0_4]) (t := 40) ?hr ?_; (case hd => rfl); (case hg => rfl); (case hr => (go_simp; try rfl)); intro gb101 hg w11 hbox hb; have BK101 := Aside0.mk (hbox); have GW101 := Aside0.mk ((by rw [hg]; exact (ae_ (bz HB.out)) : w.heap.size ≤ gb101)); have GE101 := GW101; replace HB := Aside0.mk (ad_ (bz HB.out) hb); clear hb hbox hg; obtain ⟨hcz12_0, hcz12_1, hcz12_2, hcz12_3, hcz12_4⟩ := cz5_ BK101.out; obtain ⟨hfz12_0, hfz12_1, hfz12_2, hfz12_3, hfz12_4⟩ := fz5_ BK101.out) | ((with_reducible refine an_ (f := 37) rfl ?_); refine aU_ (some 5) rfl rfl Try.func37 (by kernel_rfl) rfl #[.agg #[.int .i64 a0_0, .int .i64 a0_1, .slice A0_2 l0_2.length c0_2, .slice A0_3 l0_3.length c0_3]] rfl (by first | rfl | (simp only [lma_, lmc_, lmn_]; first | done | rfl)) ?_; (with_reducible refine (af_.calls k a0_0 a0_1 _ _ l0_2 _ _ l0_3 true _ ?side1 ?side2 ?side3 ?side4 A2.out).mono ?_); (case side1 => exact cz (Kd.aF_ HR0_2.out HB.out)); (case side2 => exact HC0_2.out); (case side3 => exact cz (Kd.aF_ HR0_3.out HB.out)); (case side4 => exact HC0_3.out); rintro e w13 ⟨rfl, hb⟩; refine ⟨_, rfl, ?_⟩; replace BK101 := Aside0.mk (aa_ (kz BK101.out) hb); replace HB := Aside0.mk (ad_ (bq) hb); (try clear hb); obtain ⟨hcz14_0, hcz14_1, hcz14_2, hcz14_3, hcz14_4⟩ := cz5_ BK101.out; obtain ⟨hfz14_0, hfz14_1, hfz14_2, hfz14_3, hfz14_4⟩ := fz5_ BK101.out))
  go_ret
  exact ⟨by first | rfl | (simp [*, ah_, ai_] <;> rfl), bq⟩
 rw [if_pos c4] at H
 have c4b0 : ((l0_4.length : Int) == (l0_3.length : Int)) = true := beq_iff_eq.mpr c4
 have c4b1 : ((l0_4.length : Int) != (l0_3.length : Int)) = false := bne_eq_false_iff_eq.mpr c4
 have c4b2 : (l0_4.length == l0_3.length) = true := by first | simpa using c4 | (simp at c4 ⊢; omega)
 clear c4
 replace H := Option.bind_eq_some_iff.mp H
 obtain ⟨t103, A50, H⟩ := H
 (try dsimp only at H)
 have A5 := Aside0.mk A50
 clear A50
 obtain rfl := Option.some.inj H
 go_enter Try.func16, Try.ntmps16
 go_wp2_with (first | ((with_reducible refine al_ (N := 1) rfl ?_); (try (refine bT_ (by rfl) ?_; dsimp only)); refine ak_ ?hg (N := 1) ?hd (cs := #[.int .i64 a0_0, .int .i64 a0_1, .slice A0_2 l0_2.length c0_2, .slice A0_3 l0_3.length c0_3, .slice A0_4 l0_4.length c0_4]) (t := 40) ?hr ?_; (case hd => rfl); (case hg => rfl); (case hr => (go_simp; try rfl)); intro gb101 hg w6 hbox hb; have BK101 := Aside0.mk (hbox); have GW101 := Aside0.mk ((by rw [hg]; exact (ae_ (bz HB.out)) : w.heap.size ≤ gb101)); have GE101 := GW101; replace HB := Aside0.mk (ad_ (bz HB.out) hb); clear hb hbox hg; obtain ⟨hcz7_0, hcz7_1, hcz7_2, hcz7_3, hcz7_4⟩ := cz5_ BK101.out; obtain ⟨hfz7_0, hfz7_1, hfz7_2, hfz7_3, hfz7_4⟩ := fz5_ BK101.out) | ((with_reducible refine an_ (f := 37) rfl ?_); refine aU_ (some 5) rfl rfl Try.func37 (by kernel_rfl) rfl #[.agg #[.int .i64 a0_0, .int .i64 a0_1, .slice A0_2 l0_2.length c0_2, .slice A0_3 l0_3.length c0_3]] rfl (by first | rfl | (simp only [lma_, lmc_, lmn_]; first | done | rfl)) ?_; (with_reducible refine (af_.calls k a0_0 a0_1 _ _ l0_2 _ _ l0_3 true _ ?side1 ?side2 ?side3 ?side4 A2.out).mono ?_); (case side1 => exact cz (Kd.aF_ HR0_2.out HB.out)); (case side2 => exact HC0_2.out); (case side3 => exact cz (Kd.aF_ HR0_3.out HB.out)); (case side4 => exact HC0_3.out); rintro e w8 ⟨rfl, hb⟩; refine ⟨_, rfl, ?_⟩; replace BK101 := Aside0.mk (aa_ (kz BK101.out) hb); replace HB := Aside0.mk (ad_ (bq) hb); (try clear hb); obtain ⟨hcz9_0, hcz9_1, hcz9_2, hcz9_3, hcz9_4⟩ := cz5_ BK101.out; obtain ⟨hfz9_0, hfz9_1, hfz9_2, hfz9_3, hfz9_4⟩ := fz5_ BK101.out) | (go_at_call 38; (with_reducible refine (bU_.calls k _ _ l0_4 t103 _ ?side1 ?side2 A5.out).mono ?_); (case side1 => exact cz (Kd.aF_ HR0_4.out HB.out)); (case side2 => exact HC0_4.out); rintro e w10 ⟨rfl, hb⟩; replace BK101 := Aside0.mk (aa_ (kz BK101.out) hb); replace HB := Aside0.mk (ad_ (bq) hb); (try clear hb)))
 go_ret
 exact ⟨by first | rfl | (simp [*, ah_, ai_] <;> rfl), bq⟩
def ca_.f (a0_0 : Int) (a0_1 : Int) (a0_2 : Int) (a0_3 : Int) (a0_4 : Int) : Option (Bool) := (am_.f a0_0 0 100000).bind fun t102 => (if t102 = true then ((am_.f a0_1 0 1000).bind fun t103 => (if t103 = true then ((am_.f a0_2 0 1000).bind fun t104 => (if t104 = true then ((am_.f a0_3 0 300).bind fun t105 => (if t105 = true then ((am_.f a0_4 0 200).bind fun t106 => (some t106)) else (some false))) else (some false))) else (some false))) else (some false))
set_option maxHeartbeats 8000000 in
set_option maxRecDepth 100000 in
theorem ca_.calls (a0_0 : Int) (a0_1 : Int) (a0_2 : Int) (a0_3 : Int) (a0_4 : Int) (r : Bool) (w : World) (h : ca_.f a0_0 a0_1 a0_2 a0_3 a0_4 = some r) :
  Calls Try.prog 17 #[.agg #[.int .i64 a0_0, .int .i64 a0_1, .int .i64 a0_2, .int .i64 a0_3, .int .i64 a0_4]] w fun e w' => e = .returned (.bool r) ∧ Below w.heap.size w w' := by
 have hu42 := Try.underlying42
 have HB := Aside0.mk (Below.refl w.heap.size w)
 have H : ((am_.f a0_0 0 100000).bind fun t102 => (if t102 = true then ((am_.f a0_1 0 1000).bind fun t103 => (if t103 = true then ((am_.f a0_2 0 1000).bind fun t104 => (if t104 = true then ((am_.f a0_3 0 300).bind fun t105 => (if t105 = true then ((am_.f a0_4 0 200).bind fun t106 => (some t106)) else (some false))) else (some false))) else (some false))) else (some false))) = some r := h
 clear h
 replace H := Option.bind_eq_some_iff.mp H
 obtain ⟨t102, A20, H⟩ := H
 (try dsimp only at H)
 have A2 := Aside0.mk A20
 clear A20
 by_cases c3 : t102 = true
 rotate_left
 ·replace c3 := Bool.eq_false_iff.mpr c3
  subst c3
  have H1 : (some false) = some r := by rw [if_neg (show ¬ (false = true) by decide)] at H; exact H
  clear H
  have H := H1
  clear H1
  obtain rfl := Option.some.inj H
  go_enter Try.func17, Try.ntmps17
  go_wp2_with (first | ((with_reducible refine al_ (N := 1) rfl ?_); refine ak_ ?hg (N := 1) ?hd (cs := #[.int .i64 a0_0, .int .i64 a0_1, .int .i64 a0_2, .int .i64 a0_3, .int .i64 a0_4]) (t := 42) ?hr ?_; (case hd => rfl); (case hg => rfl); (case hr => (go_simp; try rfl)); intro gb101 hg w19 hbox hb; have BK101 := Aside0.mk (hbox); have GW101 := Aside0.mk ((by rw [hg]; exact (ae_ (bz HB.out)) : w.heap.size ≤ gb101)); have GE101 := GW101; replace HB := Aside0.mk (ad_ (bz HB.out) hb); clear hb hbox hg; obtain ⟨hcz20_0, hcz20_1, hcz20_2, hcz20_3, hcz20_4⟩ := cz5_ BK101.out; obtain ⟨hfz20_0, hfz20_1, hfz20_2, hfz20_3, hfz20_4⟩ := fz5_ BK101.out) | ((with_reducible refine an_ (f := 39) rfl ?_); refine aU_ (some 5) rfl rfl Try.func39 (by kernel_rfl) rfl #[.int .i64 a0_0, .int .i64 0, .int .i64 100000] rfl (by first | rfl | (simp only [lma_, lmc_, lmn_]; first | done | rfl)) ?_; (with_reducible refine (am_.calls a0_0 0 100000 false _ A2.out).mono ?_); rintro e w' ⟨rfl, ⟨nd, rfl⟩⟩; refine ⟨_, rfl, ?_⟩))
  go_ret
  exact ⟨by first | rfl | (simp [*, ah_, ai_] <;> rfl), bq⟩
 subst c3
 have H1 : ((am_.f a0_1 0 1000).bind fun t103 => (if t103 = true then ((am_.f a0_2 0 1000).bind fun t104 => (if t104 = true then ((am_.f a0_3 0 300).bind fun t105 => (if t105 = true then ((am_.f a0_4 0 200).bind fun t106 => (some t106)) else (some false))) else (some false))) else (some false))) = some r := by rw [if_pos rfl] at H; exact H
 clear H
 have H := H1
 clear H1
 replace H := Option.bind_eq_some_iff.mp H
 obtain ⟨t103, A40, H⟩ := H
 (try dsimp only at H)
 have A4 := Aside0.mk A40
 clear A40
 by_cases c5 : t103 = true
 rotate_left
 ·replace c5 := Bool.eq_false_iff.mpr c5
  subst c5
  have H1 : (some false) = some r := by rw [if_neg (show ¬ (false = true) by decide)] at H; exact H
  clear H
  have H := H1
  clear H1
  obtain rfl := Option.some.inj H
  go_enter Try.func17, Try.ntmps17
  go_wp2_with (first | ((with_reducible refine al_ (N := 1) rfl ?_); refine ak_ ?hg (N := 1) ?hd (cs := #[.int .i64 a0_0, .int .i64 a0_1, .int .i64 a0_2, .int .i64 a0_3, .int .i64 a0_4]) (t := 42) ?hr ?_; (case hd => rfl); (case hg => rfl); (case hr => (go_simp; try rfl)); intro gb101 hg w17 hbox hb; have BK101 := Aside0.mk (hbox); have GW101 := Aside0.mk ((by rw [hg]; exact (ae_ (bz HB.out)) : w.heap.size ≤ gb101)); have GE101 := GW101; replace HB := Aside0.mk (ad_ (bz HB.out) hb); clear hb hbox hg; obtain ⟨hcz18_0, hcz18_1, hcz18_2, hcz18_3, hcz18_4⟩ := cz5_ BK101.out; obtain ⟨hfz18_0, hfz18_1, hfz18_2, hfz18_3, hfz18_4⟩ := fz5_ BK101.out) | ((with_reducible refine an_ (f := 39) rfl ?_); refine aU_ (some 5) rfl rfl Try.func39 (by kernel_rfl) rfl #[.int .i64 a0_0, .int .i64 0, .int .i64 100000] rfl (by first | rfl | (simp only [lma_, lmc_, lmn_]; first | done | rfl)) ?_; (with_reducible refine (am_.calls a0_0 0 100000 true _ A2.out).mono ?_); rintro e w' ⟨rfl, ⟨nd, rfl⟩⟩; refine ⟨_, rfl, ?_⟩) | (go_at_call 39; (with_reducible refine (am_.calls a0_1 0 1000 false _ A4.out).mono ?_); rintro e w' ⟨rfl, ⟨nd, rfl⟩⟩))
  go_ret
  exact ⟨by first | rfl | (simp [*, ah_, ai_] <;> rfl), bq⟩
 subst c5
 have H1 : ((am_.f a0_2 0 1000).bind fun t104 => (if t104 = true then ((am_.f a0_3 0 300).bind fun t105 => (if t105 = true then ((am_.f a0_4 0 200).bind fun t106 => (some t106)) else (some false))) else (some false))) = some r := by rw [if_pos rfl] at H; exact H
 clear H
 have H := H1
 clear H1
 replace H := Option.bind_eq_some_iff.mp H
 obtain ⟨t104, A60, H⟩ := H
 (try dsimp only at H)
 have A6 := Aside0.mk A60
 clear A60
 by_cases c7 : t104 = true
 rotate_left
 ·replace c7 := Bool.eq_false_iff.mpr c7
  subst c7
  have H1 : (some false) = some r := by rw [if_neg (show ¬ (false = true) by decide)] at H; exact H
  clear H
  have H := H1
  clear H1
  obtain rfl := Option.some.inj H
  go_enter Try.func17, Try.ntmps17
  go_wp2_with (first | ((with_reducible refine al_ (N := 1) rfl ?_); refine ak_ ?hg (N := 1) ?hd (cs := #[.int .i64 a0_0, .int .i64 a0_1, .int .i64 a0_2, .int .i64 a0_3, .int .i64 a0_4]) (t := 42) ?hr ?_; (case hd => rfl); (case hg => rfl); (case hr => (go_simp; try rfl)); intro gb101 hg w15 hbox hb; have BK101 := Aside0.mk (hbox); have GW101 := Aside0.mk ((by rw [hg]; exact (ae_ (bz HB.out)) : w.heap.size ≤ gb101)); have GE101 := GW101; replace HB := Aside0.mk (ad_ (bz HB.out) hb); clear hb hbox hg; obtain ⟨hcz16_0, hcz16_1, hcz16_2, hcz16_3, hcz16_4⟩ := cz5_ BK101.out; obtain ⟨hfz16_0, hfz16_1, hfz16_2, hfz16_3, hfz16_4⟩ := fz5_ BK101.out) | ((with_reducible refine an_ (f := 39) rfl ?_); refine aU_ (some 5) rfl rfl Try.func39 (by kernel_rfl) rfl #[.int .i64 a0_0, .int .i64 0, .int .i64 100000] rfl (by first | rfl | (simp only [lma_, lmc_, lmn_]; first | done | rfl)) ?_; (with_reducible refine (am_.calls a0_0 0 100000 true _ A2.out).mono ?_); rintro e w' ⟨rfl, ⟨nd, rfl⟩⟩; refine ⟨_, rfl, ?_⟩) | (go_at_call 39; (with_reducible refine (am_.calls a0_1 0 1000 true _ A4.out).mono ?_); rintro e w' ⟨rfl, ⟨nd, rfl⟩⟩) | (go_at_call 39; (with_reducible refine (am_.calls a0_2 0 1000 false _ A6.out).mono ?_); rintro e w' ⟨rfl, ⟨nd, rfl⟩⟩))
  go_ret
  exact ⟨by first | rfl | (simp [*, ah_, ai_] <;> rfl), bq⟩
 subst c7
 have H1 : ((am_.f a0_3 0 300).bind fun t105 => (if t105 = true then ((am_.f a0_4 0 200).bind fun t106 => (some t106)) else (some false))) = some r := by rw [if_pos rfl] at H; exact H
 clear H
 have H := H1
 clear H1
 replace H := Option.bind_eq_some_iff.mp H
 obtain ⟨t105, A80, H⟩ := H
 (try dsimp only at H)
 have A8 := Aside0.mk A80
 clear A80
 by_cases c9 : t105 = true
 rotate_left
 ·replace c9 := Bool.eq_false_iff.mpr c9
  subst c9
  have H1 : (some false) = some r := by rw [if_neg (show ¬ (false = true) by decide)] at H; exact H
  clear H
  have H := H1
  clear H1
  obtain rfl := Option.some.inj H
  go_enter Try.func17, Try.ntmps17
  go_wp2_with (first | ((with_reducible refine al_ (N := 1) rfl ?_); refine ak_ ?hg (N := 1) ?hd (cs := #[.int .i64 a0_0, .int .i64 a0_1, .int .i64 a0_2, .int .i64 a0_3, .int .i64 a0_4]) (t := 42) ?hr ?_; (case hd => rfl); (case hg => rfl); (case hr => (go_simp; try rfl)); intro gb101 hg w13 hbox hb; have BK101 := Aside0.mk (hbox); have GW101 := Aside0.mk ((by rw [hg]; exact (ae_ (bz HB.out)) : w.heap.size ≤ gb101)); have GE101 := GW101; replace HB := Aside0.mk (ad_ (bz HB.out) hb); clear hb hbox hg; obtain ⟨hcz14_0, hcz14_1, hcz14_2, hcz14_3, hcz14_4⟩ := cz5_ BK101.out; obtain ⟨hfz14_0, hfz14_1, hfz14_2, hfz14_3, hfz14_4⟩ := fz5_ BK101.out) | ((with_reducible refine an_ (f := 39) rfl ?_); refine aU_ (some 5) rfl rfl Try.func39 (by kernel_rfl) rfl #[.int .i64 a0_0, .int .i64 0, .int .i64 100000] rfl (by first | rfl | (simp only [lma_, lmc_, lmn_]; first | done | rfl)) ?_; (with_reducible refine (am_.calls a0_0 0 100000 true _ A2.out).mono ?_); rintro e w' ⟨rfl, ⟨nd, rfl⟩⟩; refine ⟨_, rfl, ?_⟩) | (go_at_call 39; (with_reducible refine (am_.calls a0_1 0 1000 true _ A4.out).mono ?_); rintro e w' ⟨rfl, ⟨nd, rfl⟩⟩) | (go_at_call 39; (with_reducible refine (am_.calls a0_2 0 1000 true _ A6.out).mono ?_); rintro e w' ⟨rfl, ⟨nd, rfl⟩⟩) | (go_at_call 39; (with_reducible refine (am_.calls a0_3 0 300 false _ A8.out).mono ?_); rintro e w' ⟨rfl, ⟨nd, rfl⟩⟩))
  go_ret
  exact ⟨by first | rfl | (simp [*, ah_, ai_] <;> rfl), bq⟩
 subst c9
 have H1 : ((am_.f a0_4 0 200).bind fun t106 => (some t106)) = some r := by rw [if_pos rfl] at H; exact H
 clear H
 have H := H1
 clear H1
 replace H := Option.bind_eq_some_iff.mp H
 obtain ⟨t106, A100, H⟩ := H
 (try dsimp only at H)
 have A10 := Aside0.mk A100
 clear A100
 obtain rfl := Option.some.inj H
 go_enter Try.func17, Try.ntmps17
 go_wp2_with (first | ((with_reducible refine al_ (N := 1) rfl ?_); refine ak_ ?hg (N := 1) ?hd (cs := #[.int .i64 a0_0, .int .i64 a0_1, .int .i64 a0_2, .int .i64 a0_3, .int .i64 a0_4]) (t := 42) ?hr ?_; (case hd => rfl); (case hg => rfl); (case hr => (go_simp; try rfl)); intro gb101 hg w11 hbox hb; have BK101 := Aside0.mk (hbox); have GW101 := Aside0.mk ((by rw [hg]; exact (ae_ (bz HB.out)) : w.heap.size ≤ gb101)); have GE101 := GW101; replace HB := Aside0.mk (ad_ (bz HB.out) hb); clear hb hbox hg; obtain ⟨hcz12_0, hcz12_1, hcz12_2, hcz12_3, hcz12_4⟩ := cz5_ BK101.out; obtain ⟨hfz12_0, hfz12_1, hfz12_2, hfz12_3, hfz12_4⟩ := fz5_ BK101.out) | ((with_reducible refine an_ (f := 39) rfl ?_); refine aU_ (some 5) rfl rfl Try.func39 (by kernel_rfl) rfl #[.int .i64 a0_0, .int .i64 0, .int .i64 100000] rfl (by first | rfl | (simp only [lma_, lmc_, lmn_]; first | done | rfl)) ?_; (with_reducible refine (am_.calls a0_0 0 100000 true _ A2.out).mono ?_); rintro e w' ⟨rfl, ⟨nd, rfl⟩⟩; refine ⟨_, rfl, ?_⟩) | (go_at_call 39; (with_reducible refine (am_.calls a0_1 0 1000 true _ A4.out).mono ?_); rintro e w' ⟨rfl, ⟨nd, rfl⟩⟩) | (go_at_call 39; (with_reducible refine (am_.calls a0_2 0 1000 true _ A6.out).mono ?_); rintro e w' ⟨rfl, ⟨nd, rfl⟩⟩) | (go_at_call 39; (with_reducible refine (am_.calls a0_3 0 300 true _ A8.out).mono ?_); rintro e w' ⟨rfl, ⟨nd, rfl⟩⟩) | (go_at_call 39; (with_reducible refine (am_.calls a0_4 0 200 t106 _ A10.out).mono ?_); rintro e w' ⟨rfl, ⟨nd, rfl⟩⟩))
 go_ret
 exact ⟨by first | rfl | (simp [*, ah_, ai_] <;> rfl), bq⟩
def cm_.f (a0 : ByteArray) : Option (Int × Int) := if a0.toList = ([97, 115, 104] : List UInt8) then (some (30, 0)) else (if a0.toList = ([98, 101, 101, 99, 104] : List UInt8) then (some (25, 0)) else (if a0.toList = ([98, 105, 114, 99, 104] : List UInt8) then (some (28, 0)) else (if a0.toList = ([99, 104, 101, 114, 114, 121] : List UInt8) then (some (45, 0)) else (if a0.toList = ([101, 98, 111, 110, 121] : List UInt8) then (some (160, 0)) else (if a0.toList = ([104, 111, 108, 108, 121] : List UInt8) then (some (60, 0)) else (if a0.toList = ([109, 97, 112, 108, 101] : List UInt8) then (some (32, 0)) else (if a0.toList = ([111, 97, 107] : List UInt8) then (some (35, 0)) else (if a0.toList = ([114, 111, 115, 101, 119, 111, 111, 100] : List UInt8) then (some (120, 0)) else (if a0.toList = ([119, 97, 108, 110, 117, 116] : List UInt8) then (some (70, 0)) else (some (0, 3)))))))))))
set_option maxHeartbeats 8000000 in
set_option maxRecDepth 100000 in
theorem cm_.calls (a0 : ByteArray) (r1 : Int) (r2 : Int) (w : World) (h : cm_.f a0 = some (r1, r2)) :
  Calls Try.prog 18 #[.string a0] w fun e w' => e = .returned (.tuple #[.int .i64 r1, .int .i64 r2]) ∧ as_ w w' := by
 have H : (if a0.toList = ([97, 115, 104] : List UInt8) then (some (30, 0)) else (if a0.toList = ([98, 101, 101, 99, 104] : List UInt8) then (some (25, 0)) else (if a0.toList = ([98, 105, 114, 99, 104] : List UInt8) then (some (28, 0)) else (if a0.toList = ([99, 104, 101, 114, 114, 121] : List UInt8) then (some (45, 0)) else (if a0.toList = ([101, 98, 111, 110, 121] : List UInt8) then (some (160, 0)) else (if a0.toList = ([104, 111, 108, 108, 121] : List UInt8) then (some (60, 0)) else (if a0.toList = ([109, 97, 112, 108, 101] : List UInt8) then (some (32, 0)) else (if a0.toList = ([111, 97, 107] : List UInt8) then (some (35, 0)) else (if a0.toList = ([114, 111, 115, 101, 119, 111, 111, 100] : List UInt8) then (some (120, 0)) else (if a0.toList = ([119, 97, 108, 110, 117, 116] : List UInt8) then (some (70, 0)) else (some (0, 3)))))))))))) = some (r1, r2) := h
 clear h
 by_cases c2 : a0.toList = ([97, 115, 104] : List UInt8)
 rotate_left
 ·rw [if_neg c2] at H
  have c2b0 : (a0.toList == ([97, 115, 104] : List UInt8)) = false := beq_eq_false_iff_ne.mpr c2
  have c2b1 : (a0.toList != ([97, 115, 104] : List UInt8)) = true := bne_iff_ne.mpr c2
  by_cases c3 : a0.toList = ([98, 101, 101, 99, 104] : List UInt8)
  rotate_left
  ·rw [if_neg c3] at H
   have c3b0 : (a0.toList == ([98, 101, 101, 99, 104] : List UInt8)) = false := beq_eq_false_iff_ne.mpr c3
   have c3b1 : (a0.toList != ([98, 101, 101, 99, 104] : List UInt8)) = true := bne_iff_ne.mpr c3
   by_cases c4 : a0.toList = ([98, 105, 114, 99, 104] : List UInt8)
   rotate_left
   ·rw [if_neg c4] at H
    have c4b0 : (a0.toList == ([98, 105, 114, 99, 104] : List UInt8)) = false := beq_eq_false_iff_ne.mpr c4
    have c4b1 : (a0.toList != ([98, 105, 114, 99, 104] : List UInt8)) = true := bne_iff_ne.mpr c4
    by_cases c5 : a0.toList = ([99, 104, 101, 114, 114, 121] : List UInt8)
    rotate_left
    ·rw [if_neg c5] at H
     have c5b0 : (a0.toList == ([99, 104, 101, 114, 114, 121] : List UInt8)) = false := beq_eq_false_iff_ne.mpr c5
     have c5b1 : (a0.toList != ([99, 104, 101, 114, 114, 121] : List UInt8)) = true := bne_iff_ne.mpr c5
     by_cases c6 : a0.toList = ([101, 98, 111, 110, 121] : List UInt8)
     rotate_left
     ·rw [if_neg c6] at H
      have c6b0 : (a0.toList == ([101, 98, 111, 110, 121] : List UInt8)) = false := beq_eq_false_iff_ne.mpr c6
      have c6b1 : (a0.toList != ([101, 98, 111, 110, 121] : List UInt8)) = true := bne_iff_ne.mpr c6
      by_cases c7 : a0.toList = ([104, 111, 108, 108, 121] : List UInt8)
      rotate_left
      ·rw [if_neg c7] at H
       have c7b0 : (a0.toList == ([104, 111, 108, 108, 121] : List UInt8)) = false := beq_eq_false_iff_ne.mpr c7
       have c7b1 : (a0.toList != ([104, 111, 108, 108, 121] : List UInt8)) = true := bne_iff_ne.mpr c7
       by_cases c8 : a0.toList = ([109, 97, 112, 108, 101] : List UInt8)
       rotate_left
       ·rw [if_neg c8] at H
        have c8b0 : (a0.toList == ([109, 97, 112, 108, 101] : List UInt8)) = false := beq_eq_false_iff_ne.mpr c8
        have c8b1 : (a0.toList != ([109, 97, 112, 108, 101] : List UInt8)) = true := bne_iff_ne.mpr c8
        by_cases c9 : a0.toList = ([111, 97, 107] : List UInt8)
        rotate_left
        ·rw [if_neg c9] at H
         have c9b0 : (a0.toList == ([111, 97, 107] : List UInt8)) = false := beq_eq_false_iff_ne.mpr c9
         have c9b1 : (a0.toList != ([111, 97, 107] : List UInt8)) = true := bne_iff_ne.mpr c9
         by_cases c10 : a0.toList = ([114, 111, 115, 101, 119, 111, 111, 100] : List UInt8)
         rotate_left
         ·rw [if_neg c10] at H
          have c10b0 : (a0.toList == ([114, 111, 115, 101, 119, 111, 111, 100] : List UInt8)) = false := beq_eq_false_iff_ne.mpr c10
          have c10b1 : (a0.toList != ([114, 111, 115, 101, 119, 111, 111, 100] : List UInt8)) = true := bne_iff_ne.mpr c10
          by_cases c11 : a0.toList = ([119, 97, 108, 110, 117, 116] : List UInt8)
          rotate_left
          ·rw [if_neg c11] at H
           have c11b0 : (a0.toList == ([119, 97, 108, 110, 117, 116] : List UInt8)) = false := beq_eq_false_iff_ne.mpr c11
           have c11b1 : (a0.toList != ([119, 97, 108, 110, 117, 116] : List UInt8)) = true := bne_iff_ne.mpr c11
           simp only [Option.some.injEq, Prod.mk.injEq] at H
           obtain ⟨rfl, rfl⟩ := H
           go_enter Try.func18, Try.ntmps18
           go_wp2
           go_ret2
           exact ⟨by first | rfl | (simp; done) | (simp [*]; done), by repeat (first | exact as_.refl _ | apply as_.step)⟩
          rw [if_pos c11] at H
          have c11b0 : (a0.toList == ([119, 97, 108, 110, 117, 116] : List UInt8)) = true := beq_iff_eq.mpr c11
          have c11b1 : (a0.toList != ([119, 97, 108, 110, 117, 116] : List UInt8)) = false := bne_eq_false_iff_eq.mpr c11
          clear c11
          simp only [Option.some.injEq, Prod.mk.injEq] at H
          obtain ⟨rfl, rfl⟩ := H
          go_enter Try.func18, Try.ntmps18
          go_wp2
          go_ret2
          exact ⟨by first | rfl | (simp; done) | (simp [*]; done), by repeat (first | exact as_.refl _ | apply as_.step)⟩
         rw [if_pos c10] at H
         have c10b0 : (a0.toList == ([114, 111, 115, 101, 119, 111, 111, 100] : List UInt8)) = true := beq_iff_eq.mpr c10
         have c10b1 : (a0.toList != ([114, 111, 115, 101, 119, 111, 111, 100] : List UInt8)) = false := bne_eq_false_iff_eq.mpr c10
         clear c10
         simp only [Option.some.injEq, Prod.mk.injEq] at H
         obtain ⟨rfl, rfl⟩ := H
         go_enter Try.func18, Try.ntmps18
         go_wp2
         go_ret2
         exact ⟨by first | rfl | (simp; done) | (simp [*]; done), by repeat (first | exact as_.refl _ | apply as_.step)⟩
        rw [if_pos c9] at H
        have c9b0 : (a0.toList == ([111, 97, 107] : List UInt8)) = true := beq_iff_eq.mpr c9
        have c9b1 : (a0.toList != ([111, 97, 107] : List UInt8)) = false := bne_eq_false_iff_eq.mpr c9
        clear c9
        simp only [Option.some.injEq, Prod.mk.injEq] at H
        obtain ⟨rfl, rfl⟩ := H
        go_enter Try.func18, Try.ntmps18
        go_wp2
        go_ret2
        exact ⟨by first | rfl | (simp; done) | (simp [*]; done), by repeat (first | exact as_.refl _ | apply as_.step)⟩
       rw [if_pos c8] at H
       have c8b0 : (a0.toList == ([109, 97, 112, 108, 101] : List UInt8)) = true := beq_iff_eq.mpr c8
       have c8b1 : (a0.toList != ([109, 97, 112, 108, 101] : List UInt8)) = false := bne_eq_false_iff_eq.mpr c8
       clear c8
       simp only [Option.some.injEq, Prod.mk.injEq] at H
       obtain ⟨rfl, rfl⟩ := H
       go_enter Try.func18, Try.ntmps18
       go_wp2
       go_ret2
       exact ⟨by first | rfl | (simp; done) | (simp [*]; done), by repeat (first | exact as_.refl _ | apply as_.step)⟩
      rw [if_pos c7] at H
      have c7b0 : (a0.toList == ([104, 111, 108, 108, 121] : List UInt8)) = true := beq_iff_eq.mpr c7
      have c7b1 : (a0.toList != ([104, 111, 108, 108, 121] : List UInt8)) = false := bne_eq_false_iff_eq.mpr c7
      clear c7
      simp only [Option.some.injEq, Prod.mk.injEq] at H
      obtain ⟨rfl, rfl⟩ := H
      go_enter Try.func18, Try.ntmps18
      go_wp2
      go_ret2
      exact ⟨by first | rfl | (simp; done) | (simp [*]; done), by repeat (first | exact as_.refl _ | apply as_.step)⟩
     rw [if_pos c6] at H
     have c6b0 : (a0.toList == ([101, 98, 111, 110, 121] : List UInt8)) = true := beq_iff_eq.mpr c6
     have c6b1 : (a0.toList != ([101, 98, 111, 110, 121] : List UInt8)) = false := bne_eq_false_iff_eq.mpr c6
     clear c6
     simp only [Option.some.injEq, Prod.mk.injEq] at H
     obtain ⟨rfl, rfl⟩ := H
     go_enter Try.func18, Try.ntmps18
     go_wp2
     go_ret2
     exact ⟨by first | rfl | (simp; done) | (simp [*]; done), by repeat (first | exact as_.refl _ | apply as_.step)⟩
    rw [if_pos c5] at H
    have c5b0 : (a0.toList == ([99, 104, 101, 114, 114, 121] : List UInt8)) = true := beq_iff_eq.mpr c5
    have c5b1 : (a0.toList != ([99, 104, 101, 114, 114, 121] : List UInt8)) = false := bne_eq_false_iff_eq.mpr c5
    clear c5
    simp only [Option.some.injEq, Prod.mk.injEq] at H
    obtain ⟨rfl, rfl⟩ := H
    go_enter Try.func18, Try.ntmps18
    go_wp2
    go_ret2
    exact ⟨by first | rfl | (simp; done) | (simp [*]; done), by repeat (first | exact as_.refl _ | apply as_.step)⟩
   rw [if_pos c4] at H
   have c4b0 : (a0.toList == ([98, 105, 114, 99, 104] : List UInt8)) = true := beq_iff_eq.mpr c4
   have c4b1 : (a0.toList != ([98, 105, 114, 99, 104] : List UInt8)) = false := bne_eq_false_iff_eq.mpr c4
   clear c4
   simp only [Option.some.injEq, Prod.mk.injEq] at H
   obtain ⟨rfl, rfl⟩ := H
   go_enter Try.func18, Try.ntmps18
   go_wp2
   go_ret2
   exact ⟨by first | rfl | (simp; done) | (simp [*]; done), by repeat (first | exact as_.refl _ | apply as_.step)⟩
  rw [if_pos c3] at H
  have c3b0 : (a0.toList == ([98, 101, 101, 99, 104] : List UInt8)) = true := beq_iff_eq.mpr c3
  have c3b1 : (a0.toList != ([98, 101, 101, 99, 104] : List UInt8)) = false := bne_eq_false_iff_eq.mpr c3
  clear c3
  simp only [Option.some.injEq, Prod.mk.injEq] at H
  obtain ⟨rfl, rfl⟩ := H
  go_enter Try.func18, Try.ntmps18
  go_wp2
  go_ret2
  exact ⟨by first | rfl | (simp; done) | (simp [*]; done), by repeat (first | exact as_.refl _ | apply as_.step)⟩
 rw [if_pos c2] at H
 have c2b0 : (a0.toList == ([97, 115, 104] : List UInt8)) = true := beq_iff_eq.mpr c2
 have c2b1 : (a0.toList != ([97, 115, 104] : List UInt8)) = false := bne_eq_false_iff_eq.mpr c2
 clear c2
 simp only [Option.some.injEq, Prod.mk.injEq] at H
 obtain ⟨rfl, rfl⟩ := H
 go_enter Try.func18, Try.ntmps18
 go_wp2
 go_ret2
 exact ⟨by first | rfl | (simp; done) | (simp [*]; done), by repeat (first | exact as_.refl _ | apply as_.step)⟩
def bj_.f (k : Nat) (a0_0 : Int) (a0_1 : Int) (l0_2 : List (S81)) (l0_3 : List (S85)) (a1 : Int) : Option ((List (S81))) := if 0 ≤ a1 then (if a1 < (l0_3.length : Int) then ((aQ_.f k l0_2 ((aA_ l0_3 a1).f1)).bind fun bt103 => (some bt103.1)) else (none)) else (none)
def bj_.T1 : Bool × List (List Nat × List Nat) := (true, [([], []), ([0], [0]), ([], []), ([2], [2]), ([], []), ([3, 4], [3, 4]), ([5], [5]), ([6], [6]), ([1, 7], [1, 7]), ([8], [8]), ([9], [9]), ([9], [9]), ([10, 8, 0, 1, 2, 3, 4, 5, 6, 7, 8, 9, 10], [10]), ([11, 12, 0, 1, 2, 3, 4, 5, 6, 7, 8, 9, 10, 11, 12], [11])])
def bj_.B1 : List Nat := [0, 1, 0, 4, 0, 28, 60, 124, 255, 511, 1023, 1023, 2047, 8191]
theorem bj_.tab1 : rtab .any (opsOf Try.f20 1) = bj_.T1 := by kernel_rfl
theorem bj_.bits1 : cj_ bj_.T1.2 bj_.B1 = true := by kernel_rfl
set_option maxHeartbeats 8000000 in
set_option maxRecDepth 100000 in
theorem bj_.calls (k : Nat) (a0_0 : Int) (a0_1 : Int) (A0_2 : Option Addr) (c0_2 : Nat) (l0_2 : List (S81)) (A0_3 : Option Addr) (c0_3 : Nat) (l0_3 : List (S85)) (a1 : Int) (r : List (S81)) (w : World) (hr0_2 : Kd.C k81 w A0_2 l0_2.length l0_2) (hc0_2 : l0_2.length ≤ c0_2) (hr0_3 : Kd.C k85 w A0_3 l0_3.length l0_3) (hc0_3 : l0_3.length ≤ c0_3) (h : bj_.f k a0_0 a0_1 l0_2 l0_3 a1 = some r) :
  Calls Try.prog 20 #[.agg #[.int .i64 a0_0, .int .i64 a0_1, .slice A0_2 l0_2.length c0_2, .slice A0_3 l0_3.length c0_3], .int .i64 a1] w fun e w' => ∃ v0_ : Value, e = .returned (v0_) ∧ Kd.R k81 81 w' w.heap.size (fun _ => True) v0_ r ∧ Below w.heap.size w w' := by
 have hu37 := Try.underlying37
 have HR0_2 := Aside0.mk hr0_2
 have HC0_2 := Aside0.mk hc0_2
 clear hr0_2 hc0_2
 have HR0_3 := Aside0.mk hr0_3
 have HC0_3 := Aside0.mk hc0_3
 clear hr0_3 hc0_3
 have HB := Aside0.mk (Below.refl w.heap.size w)
 have H : (if 0 ≤ a1 then (if a1 < (l0_3.length : Int) then ((aQ_.f k l0_2 ((aA_ l0_3 a1).f1)).bind fun bt103 => (some bt103.1)) else (none)) else (none)) = some r := h
 clear h
 by_cases c3 : 0 ≤ a1
 rotate_left
 ·rw [if_neg c3] at H
  exact absurd H (by simp)
 rw [if_pos c3] at H
 have c3b0 : decide (0 ≤ a1) = true := decide_eq_true c3
 clear c3
 by_cases c4 : a1 < (l0_3.length : Int)
 rotate_left
 ·rw [if_neg c4] at H
  exact absurd H (by simp)
 rw [if_pos c4] at H
 have c4b0 : decide (a1 < (l0_3.length : Int)) = true := decide_eq_true c4
 clear c4
 replace H := Option.bind_eq_some_iff.mp H
 obtain ⟨⟨t103, t104⟩, A50, H⟩ := H
 (try dsimp only at H)
 have A5 := Aside0.mk A50
 clear A50
 obtain rfl := Option.some.inj H
 go_enter Try.func20, Try.ntmps20
 try go_wp2_with (first | ((with_reducible refine al_ (N := 2) rfl ?_); refine ak_ ?hg (N := 2) ?hd (cs := #[.int .i64 a0_0, .int .i64 a0_1, .slice A0_2 l0_2.length c0_2, .slice A0_3 l0_3.length c0_3]) (t := 37) ?hr ?_; (case hd => rfl); (case hg => rfl); (case hr => (go_simp; try rfl)); intro gb101 hg w6 hbox hb; have BK101 := Aside0.mk (hbox); have GW101 := Aside0.mk ((by rw [hg]; exact (ae_ (bz HB.out)) : w.heap.size ≤ gb101)); have GE101 := GW101; replace HB := Aside0.mk (ad_ (bz HB.out) hb); clear hb hbox hg))
 have n0_ := Aside0.mk (av_ BK101.out)
 have n1_ := Aside0.mk (bD_ HB.out)
 clear BK101
 clear HB
 have BK101 := n0_
 have HB := n1_
 clear n0_ n1_
 have p102 : 0 ≤ (a1 : Int) := of_decide_eq_true (by assumption)
 have q102 : a1 < (l0_3.length : Int) := of_decide_eq_true (by assumption)
 obtain ⟨ad102, A102_1, c102_1, e102, hx102_0, hx102_1, hl102_1, hi102_1⟩ := at_T85 HR0_3.out a1 p102 q102
 have hw102_1 := hx102_1
 have hw102_0 := hx102_0
 cases e102
 replace hx102_0 := bu_ HB.out hx102_0
 replace hx102_1 := bu_ HB.out hx102_1
 have HR102_1 := Aside0.mk hi102_1
 have HC102_1 := Aside0.mk hl102_1
 clear hi102_1 hl102_1
 replace p102 := eq_true p102
 replace q102 := eq_true q102
 refine cl_ (n := 14) (S := fun w' => w'.cell? ⟨gb101, 0, none⟩ = some (.int .i64 a0_0) ∧ w'.cell? ⟨gb101, 1, none⟩ = some (.int .i64 a0_1) ∧ w'.cell? ⟨gb101, 2, none⟩ = some (.slice A0_2 l0_2.length c0_2) ∧ w'.cell? ⟨gb101, 3, none⟩ = some (.slice (some ad102) l0_3.length c0_3) ∧ w'.cell? (ad102.add ((a1).toNat * 2)) = some (.string ((aA_ l0_3 a1).f0)) ∧ w'.cell? ⟨(ad102.add ((a1).toNat * 2)).block, (ad102.add ((a1).toNat * 2)).off + 1, none⟩ = some (.slice A102_1 ((aA_ l0_3 a1).f1).length c102_1)) (ds := []) #[f_,f_,f_,f_,f_,f_,f_,f_,f_,f_,f_,f_,f_,f_] (by kernel_rfl) rfl rfl ⟨(ac_ BK101.out 0).trans rfl, (ac_ BK101.out 1).trans rfl, (ac_ BK101.out 2).trans rfl, (ac_ BK101.out 3).trans rfl, (bv_ HB.out hw102_0), (bv_ HB.out hw102_1)⟩ (fun hHeld => ?_); refine bo_ bj_.tab1 bj_.bits1 (fun HT_ HW_ => ?_)
 generalize w6.drew = w7 at BK101 HB HR102_1 hx102_0 hx102_1 hHeld ⊢
 refine pu 0 8 #[t_,f_,f_,f_,f_,f_,f_,f_,f_,f_,f_,f_,f_,f_] HT_ ?_
 refine pu 2 10 #[t_,f_,t_,f_,f_,f_,f_,f_,f_,f_,f_,f_,f_,f_] HT_ ?_
 refine pu 4 12 #[t_,f_,t_,f_,t_,f_,f_,f_,f_,f_,f_,f_,f_,f_] HT_ ?_
 refine tk 1 9 #[t_,t_,t_,f_,t_,f_,f_,f_,f_,f_,f_,f_,f_,f_] HT_ HW_ hHeld ?_ (hv := by rintro w' ⟨s0, s1, s2, s3, s4, s5⟩; go_simp; with_reducible rfl)
 refine tk 3 11 #[t_,t_,t_,t_,t_,f_,f_,f_,f_,f_,f_,f_,f_,f_] HT_ HW_ hHeld ?_ (hv := by rintro w' ⟨s0, s1, s2, s3, s4, s5⟩; go_simp; with_reducible rfl)
 refine pu 5 13 #[t_,t_,t_,t_,t_,t_,f_,f_,f_,f_,f_,f_,f_,f_] HT_ ?_
 refine pu 6 14 #[t_,t_,t_,t_,t_,t_,t_,f_,f_,f_,f_,f_,f_,f_] HT_ ?_
 refine tk 7 15 #[t_,t_,t_,t_,t_,t_,t_,t_,f_,f_,f_,f_,f_,f_] HT_ HW_ hHeld ?_ (hv := by rintro w' ⟨s0, s1, s2, s3, s4, s5⟩; go_simp; with_reducible rfl)
 refine one_ (i := 8) (N := some 16) #[t_,t_,t_,t_,t_,t_,t_,t_,t_,f_,f_,f_,f_,f_] rfl rfl (bh_ HT_.out (by kernel_rfl)) (by decide) (fun K hK => ?_)
 (first | refine goes_ Try.func40 (by kernel_rfl) rfl #[.slice A0_2 l0_2.length c0_2, .slice A102_1 ((aA_ l0_3 a1).f1).length c102_1] (by rfl) rfl rfl (by first | rfl | (simp only [lma_, lmc_, lmn_]; first | done | rfl)) ?_ | refine RPW.by_ Try.func40 (by kernel_rfl) rfl #[.slice A0_2 l0_2.length c0_2, .slice A102_1 ((aA_ l0_3 a1).f1).length c102_1] (by rfl) rfl rfl rfl (by first | rfl | (simp only [lma_, lmc_, lmn_]; first | done | rfl)) ?_ | refine RPW.bz_ Try.func40 (by kernel_rfl) rfl #[.slice A0_2 l0_2.length c0_2, .slice A102_1 ((aA_ l0_3 a1).f1).length c102_1] (by rfl) rfl rfl rfl (by first | rfl | (simp only [lma_, lmc_, lmn_]; first | done | rfl)) ?_)
 with_reducible refine (aQ_.calls k _ _ l0_2 _ _ ((aA_ l0_3 a1).f1) t103 t104 _ ?side1 ?side2 ?side3 ?side4 A5.out).mono ?_
 (case side1 => exact cz (Kd.aF_ HR0_2.out HB.out))
 (case side2 => exact HC0_2.out)
 (case side3 => exact cz (Kd.aF_ HR102_1.out HB.out))
 (case side4 => exact HC102_1.out)
 rintro e w8 ⟨v105, rfl, ho0, hb⟩
 refine ⟨_, rfl, ?_⟩
 have n0_ := Aside0.mk (Kd.bq_ ho0 (ae_ (bq)))
 have n1_ := Aside0.mk (aa_ (kz BK101.out) hb)
 have n2_ := Aside0.mk (ad_ (bq) hb)
 clear BK101
 clear HB
 have HO106 := n0_
 have BK101 := n1_
 have HB := n2_
 clear n0_ n1_ n2_
 (try clear hb)
 (try clear ho0)
 refine hK.out _ _ ⟨(ac_ BK101.out 0).trans rfl, (ac_ BK101.out 1).trans rfl, (ac_ BK101.out 2).trans rfl, (ac_ BK101.out 3).trans rfl, (bv_ HB.out hw102_0), (bv_ HB.out hw102_1)⟩ (fun hHeld => ?_)
 clear hK K
 refine norm_ (a' := ?_) ?_ ?_
 rotate_left
 ·show Act.put _ (some 16) _ = _
  simp only [Act.put, lsa_, ls0_, ls1_, i64_w, i32_w]
  rfl
 refine pu 9 7 #[t_,t_,t_,t_,t_,t_,t_,t_,t_,t_,f_,f_,f_,f_] HT_ ?_
 refine pu 10 17 #[t_,t_,t_,t_,t_,t_,t_,t_,t_,t_,t_,f_,f_,f_] HT_ ?_
 refine pu 11 18 #[t_,t_,t_,t_,t_,t_,t_,t_,t_,t_,t_,t_,f_,f_] HT_ ?_
 refine pu 12 5 #[t_,t_,t_,t_,t_,t_,t_,t_,t_,t_,t_,t_,t_,f_] HT_ ?_
 refine pu 13 6 #[t_,t_,t_,t_,t_,t_,t_,t_,t_,t_,t_,t_,t_,t_] HT_ ?_
 refine done_ (bS_ HT_.out (by kernel_rfl)) ?_
 try go_wp2
 go_ret
 exact ⟨_, by first | rfl | (simp [*, ah_, ai_] <;> rfl), rz HO106.out, bq⟩
def impl_upDiv.f (a0 : Int) (a1 : Int) : Option (Int) := if a1 = 0 then (none) else (some (wrap64 (Int.tdiv (wrap64 ((wrap64 (a0 + a1)) - 1)) a1)))
set_option maxHeartbeats 8000000 in
set_option maxRecDepth 100000 in
theorem impl_upDiv.calls (a0 : Int) (a1 : Int) (r : Int) (w : World) (h : impl_upDiv.f a0 a1 = some r) :
  Calls Try.prog 21 #[.int .i64 a0, .int .i64 a1] w fun e w' => e = .returned (.int .i64 r) ∧ as_ w w' := by
 have H : (if a1 = 0 then (none) else (some (wrap64 (Int.tdiv (wrap64 ((wrap64 (a0 + a1)) - 1)) a1)))) = some r := h
 clear h
 by_cases c3 : a1 = 0
 rotate_left
 ·rw [if_neg c3] at H
  have c3b0 : (a1 == 0) = false := beq_eq_false_iff_ne.mpr c3
  have c3b1 : (a1 != 0) = true := bne_iff_ne.mpr c3
  obtain rfl := Option.some.inj H
  go_enter Try.func21, Try.ntmps21
  go_wp2
  go_ret
  exact ⟨by first | rfl | (simp; done) | (simp [*]; done), by repeat (first | exact as_.refl _ | apply as_.step)⟩
 rw [if_pos c3] at H
 exact absurd H (by simp)
mutual
def az_.j0 : Nat → Bool → Int → Int → List (S81) → List (S85) → List (S56) → Int → Int → Int → Int → Int → Option (Int × Int)
 | 0, _, _, _, _, _, _, _, _, _, _, _ => none
 | k + 1, x18, x102000, x102001, x102002, x102003, x102004, x103000, x103001, x103002, x103003, x103004 => if x18 = true then (some (0, 1)) else (az_.l0 k 0 x102004 (x102004.length : Int) 0 x102000 x102001 x102002 x102003 x102004 x103000 x103001 x103002 x103003 x103004)
def az_.l0 : Nat → Int → List (S56) → Int → Int → Int → Int → List (S81) → List (S85) → List (S56) → Int → Int → Int → Int → Int → Option (Int × Int)
 | 0, _, _, _, _, _, _, _, _, _, _, _, _, _, _ => none
 | k + 1, x6, x20, x21, x22, x102000, x102001, x102002, x102003, x102004, x103000, x103001, x103002, x103003, x103004 => if x22 < x21 then (if 0 ≤ x22 then (if x22 < (x20.length : Int) then ((cm_.f ((aR_ x20 x22).f0)).bind fun bt107 => ((bj_.f k x102000 x102001 x102002 x102003 x22).bind fun t109 => ((br_.f k t109).bind fun t112 => (az_.l0 k (wrap64 (x6 + (wrap64 ((wrap64 (t112 * bt107.1)) * (wrap64 (100 + x103003)))))) x20 x21 (wrap64 (x22 + 1)) x102000 x102001 x102002 x102003 x102004 x103000 x103001 x103002 x103003 x103004)))) else (none)) else (none)) else ((impl_upDiv.f x6 200000000).bind fun t113 => (some (t113, 0)))
end
def az_.f (k : Nat) (a0_0 : Int) (a0_1 : Int) (l0_2 : List (S81)) (l0_3 : List (S85)) (l0_4 : List (S56)) (a1_0 : Int) (a1_1 : Int) (a1_2 : Int) (a1_3 : Int) (a1_4 : Int) : Option (Int × Int) := (bP_.f k a0_0 a0_1 l0_2 l0_3 l0_4).bind fun t103 => (if t103 = true then ((ca_.f a1_0 a1_1 a1_2 a1_3 a1_4).bind fun t104 => (az_.j0 k (!t104) a0_0 a0_1 l0_2 l0_3 l0_4 a1_0 a1_1 a1_2 a1_3 a1_4)) else (az_.j0 k true a0_0 a0_1 l0_2 l0_3 l0_4 a1_0 a1_1 a1_2 a1_3 a1_4))
def az_.T8 : Bool × List (List Nat × List Nat) := (true, [([], []), ([], []), ([1], [1]), ([], []), ([2, 3], [2, 3]), ([4, 4], [4]), ([], []), ([5, 6], [5, 6]), ([], []), ([8], [8]), ([9], [9]), ([7, 10], [7, 10]), ([0, 11], [0, 11]), ([12, 5, 0, 1, 2, 3, 4, 5, 6, 7, 8, 9, 10, 11, 12], [0, 12])])
def az_.B8 : List Nat := [0, 0, 2, 0, 14, 30, 0, 126, 0, 256, 768, 2046, 4095, 8191]
theorem az_.tab8 : rtab .any (opsOf Try.f8 8) = az_.T8 := by kernel_rfl
theorem az_.bits8 : cj_ az_.T8.2 az_.B8 = true := by kernel_rfl
set_option maxHeartbeats 8000000 in
set_option maxRecDepth 100000 in
theorem az_.calls (k : Nat) (a0_0 : Int) (a0_1 : Int) (A0_2 : Option Addr) (c0_2 : Nat) (l0_2 : List (S81)) (A0_3 : Option Addr) (c0_3 : Nat) (l0_3 : List (S85)) (A0_4 : Option Addr) (c0_4 : Nat) (l0_4 : List (S56)) (a1_0 : Int) (a1_1 : Int) (a1_2 : Int) (a1_3 : Int) (a1_4 : Int) (r1 : Int) (r2 : Int) (w : World) (hr0_2 : Kd.C k81 w A0_2 l0_2.length l0_2) (hc0_2 : l0_2.length ≤ c0_2) (hr0_3 : Kd.C k85 w A0_3 l0_3.length l0_3) (hc0_3 : l0_3.length ≤ c0_3) (hr0_4 : Kd.C k56 w A0_4 l0_4.length l0_4) (hc0_4 : l0_4.length ≤ c0_4) (h : az_.f k a0_0 a0_1 l0_2 l0_3 l0_4 a1_0 a1_1 a1_2 a1_3 a1_4 = some (r1, r2)) :
  Calls Try.prog 8 #[.agg #[.int .i64 a0_0, .int .i64 a0_1, .slice A0_2 l0_2.length c0_2, .slice A0_3 l0_3.length c0_3, .slice A0_4 l0_4.length c0_4], .agg #[.int .i64 a1_0, .int .i64 a1_1, .int .i64 a1_2, .int .i64 a1_3, .int .i64 a1_4]] w fun e w' => e = .returned (.tuple #[.int .i64 r1, .int .i64 r2]) ∧ Below w.heap.size w w' := by
 have hu40 := Try.underlying40
 have hu42 := Try.underlying42
 have hu56 := Try.underlying56
 have hu37 := Try.underlying37
 have HR0_2 := Aside0.mk hr0_2
 have HC0_2 := Aside0.mk hc0_2
 clear hr0_2 hc0_2
 have HR0_3 := Aside0.mk hr0_3
 have HC0_3 := Aside0.mk hc0_3
 clear hr0_3 hc0_3
 have HR0_4 := Aside0.mk hr0_4
 have HC0_4 := Aside0.mk hc0_4
 clear hr0_4 hc0_4
 have HB := Aside0.mk (Below.refl w.heap.size w)
 have H : ((bP_.f k a0_0 a0_1 l0_2 l0_3 l0_4).bind fun t103 => (if t103 = true then ((ca_.f a1_0 a1_1 a1_2 a1_3 a1_4).bind fun t104 => (az_.j0 k (!t104) a0_0 a0_1 l0_2 l0_3 l0_4 a1_0 a1_1 a1_2 a1_3 a1_4)) else (az_.j0 k true a0_0 a0_1 l0_2 l0_3 l0_4 a1_0 a1_1 a1_2 a1_3 a1_4))) = some (r1, r2) := h
 clear h
 have HC3 := Aside0.mk H
 clear H
 go_enter Try.func8, Try.ntmps8
 go_upto_region 1 with (first | ((with_reducible refine al_ (N := 2) rfl ?_); refine ak_ ?hg (N := 2) ?hd (cs := #[.int .i64 a0_0, .int .i64 a0_1, .slice A0_2 l0_2.length c0_2, .slice A0_3 l0_3.length c0_3, .slice A0_4 l0_4.length c0_4]) (t := 40) ?hr ?_; (case hd => rfl); (case hg => rfl); (case hr => (go_simp; try rfl)); intro gb101 hg w4 hbox hb; have BK101 := Aside0.mk (hbox); have GW101 := Aside0.mk ((by rw [hg]; exact (ae_ (bz HB.out)) : w.heap.size ≤ gb101)); have GE101 := GW101; replace HB := Aside0.mk (ad_ (bz HB.out) hb); clear hb hbox hg) | ((with_reducible refine al_ (N := 3) rfl ?_); refine ak_ ?hg (N := 3) ?hd (cs := #[.int .i64 a1_0, .int .i64 a1_1, .int .i64 a1_2, .int .i64 a1_3, .int .i64 a1_4]) (t := 42) ?hr ?_; (case hd => rfl); (case hg => rfl); (case hr => (go_simp; try rfl)); intro gb102 hg w5 hbox hb; have BK102 := Aside0.mk (hbox); have GW102 := Aside0.mk ((by rw [hg]; exact (ae_ (bq)) : w.heap.size ≤ gb102)); have GE102 := GW102; replace HB := Aside0.mk (ad_ (bq) hb); have NB101_102 := Aside0.mk ((by rw [hg]; exact Nat.ne_of_lt (aj_ (kz BK101.out)) : gb101 ≠ gb102)); have NB102_101 := Aside0.mk ((by rw [hg]; exact Nat.ne_of_gt (aj_ (kz BK101.out)) : gb102 ≠ gb101)); replace BK101 := Aside0.mk (aa_ (kz BK101.out) hb); clear hb hbox hg))
 (try simp only [Act.put, lsa_, ls0_, ls1_])
 go_cut [18] (fun v18 wc => ∃ (kq : Nat) (x18_2 : Bool), v18 = .bool x18_2 ∧ Aside0 (az_.j0 kq x18_2 a0_0 a0_1 l0_2 l0_3 l0_4 a1_0 a1_1 a1_2 a1_3 a1_4 = some (r1, r2)) ∧ Aside0 (kq ≤ k) ∧ Aside0 (wc.heap[gb101]? = some (.cells #[.int .i64 a0_0, .int .i64 a0_1, (.slice A0_2 l0_2.length c0_2), (.slice A0_3 l0_3.length c0_3), (.slice A0_4 l0_4.length c0_4)] 40 (0, 0))) ∧ Aside0 (wc.heap[gb102]? = some (.cells #[.int .i64 a1_0, .int .i64 a1_1, .int .i64 a1_2, .int .i64 a1_3, .int .i64 a1_4] 42 (0, 0))) ∧ Aside0 (Below w.heap.size w wc))
 case first =>
  have H := HC3.out
  clear HC3
  replace H := Option.bind_eq_some_iff.mp H
  obtain ⟨t103, A60, H⟩ := H
  (try dsimp only at H)
  have A6 := Aside0.mk A60
  clear A60
  by_cases c7 : t103 = true
  rotate_left
  ·replace c7 := Bool.eq_false_iff.mpr c7
   subst c7
   have H1 : (az_.j0 k true a0_0 a0_1 l0_2 l0_3 l0_4 a1_0 a1_1 a1_2 a1_3 a1_4) = some (r1, r2) := by rw [if_neg (show ¬ (false = true) by decide)] at H; exact H
   clear H
   have H := H1
   clear H1
   have H' := Aside0.mk H
   clear H
   have hnb14 := NB101_102.out
   have hnc14 := NB102_101.out
   obtain ⟨hcz15_0, hcz15_1, hcz15_2, hcz15_3, hcz15_4⟩ := cz5_ BK101.out
   obtain ⟨hfz15_0, hfz15_1, hfz15_2, hfz15_3, hfz15_4⟩ := fz5_ BK101.out
   go_wp2_with (first | ((with_reducible refine an_ (f := 16) rfl ?_); refine aU_ (some 12) rfl rfl Try.func16 (by kernel_rfl) rfl #[.agg #[.int .i64 a0_0, .int .i64 a0_1, .slice A0_2 l0_2.length c0_2, .slice A0_3 l0_3.length c0_3, .slice A0_4 l0_4.length c0_4]] rfl (by first | rfl | (simp only [lma_, lmc_, lmn_]; first | done | rfl)) ?_; (with_reducible refine (bP_.calls k a0_0 a0_1 _ _ l0_2 _ _ l0_3 _ _ l0_4 false _ ?side1 ?side2 ?side3 ?side4 ?side5 ?side6 A6.out).mono ?_); (case side1 => exact cz (Kd.aF_ HR0_2.out HB.out)); (case side2 => exact HC0_2.out); (case side3 => exact cz (Kd.aF_ HR0_3.out HB.out)); (case side4 => exact HC0_3.out); (case side5 => exact cz (Kd.aF_ HR0_4.out HB.out)); (case side6 => exact HC0_4.out); rintro e w16 ⟨rfl, hb⟩; refine ⟨_, rfl, ?_⟩; replace BK101 := Aside0.mk (aa_ (kz BK101.out) hb); replace BK102 := Aside0.mk (aa_ (kz BK102.out) hb); replace HB := Aside0.mk (ad_ (bq) hb); (try clear hb)))
   go_meet
   case rel => exact ⟨_, (true), (by first | rfl | (simp; done) | (simp [*]; done)), H', ⟨by first | omega | exact Nat.le_refl _⟩, ⟨by (with_reducible repeat (first | refine aL_ ?_ _ | refine av_ ?_ | refine aM_ ?_ _)); exact BK101.out⟩, ⟨by (with_reducible repeat (first | refine aL_ ?_ _ | refine av_ ?_ | refine aM_ ?_ _)); exact BK102.out⟩, ⟨bq⟩⟩
  subst c7
  have H1 : ((ca_.f a1_0 a1_1 a1_2 a1_3 a1_4).bind fun t104 => (az_.j0 k (!t104) a0_0 a0_1 l0_2 l0_3 l0_4 a1_0 a1_1 a1_2 a1_3 a1_4)) = some (r1, r2) := by rw [if_pos rfl] at H; exact H
  clear H
  have H := H1
  clear H1
  replace H := Option.bind_eq_some_iff.mp H
  obtain ⟨t104, A80, H⟩ := H
  (try dsimp only at H)
  have A8 := Aside0.mk A80
  clear A80
  have H' := Aside0.mk H
  clear H
  have hnb9 := NB101_102.out
  have hnc9 := NB102_101.out
  obtain ⟨hcz10_0, hcz10_1, hcz10_2, hcz10_3, hcz10_4⟩ := cz5_ BK101.out
  obtain ⟨hfz10_0, hfz10_1, hfz10_2, hfz10_3, hfz10_4⟩ := fz5_ BK101.out
  go_wp2_with (first | ((with_reducible refine an_ (f := 16) rfl ?_); refine aU_ (some 12) rfl rfl Try.func16 (by kernel_rfl) rfl #[.agg #[.int .i64 a0_0, .int .i64 a0_1, .slice A0_2 l0_2.length c0_2, .slice A0_3 l0_3.length c0_3, .slice A0_4 l0_4.length c0_4]] rfl (by first | rfl | (simp only [lma_, lmc_, lmn_]; first | done | rfl)) ?_; (with_reducible refine (bP_.calls k a0_0 a0_1 _ _ l0_2 _ _ l0_3 _ _ l0_4 true _ ?side1 ?side2 ?side3 ?side4 ?side5 ?side6 A6.out).mono ?_); (case side1 => exact cz (Kd.aF_ HR0_2.out HB.out)); (case side2 => exact HC0_2.out); (case side3 => exact cz (Kd.aF_ HR0_3.out HB.out)); (case side4 => exact HC0_3.out); (case side5 => exact cz (Kd.aF_ HR0_4.out HB.out)); (case side6 => exact HC0_4.out); rintro e w11 ⟨rfl, hb⟩; refine ⟨_, rfl, ?_⟩; replace BK101 := Aside0.mk (aa_ (kz BK101.out) hb); replace BK102 := Aside0.mk (aa_ (kz BK102.out) hb); replace HB := Aside0.mk (ad_ (bq) hb); (try clear hb); obtain ⟨hcz12_0, hcz12_1, hcz12_2, hcz12_3, hcz12_4⟩ := cz5_ BK102.out; obtain ⟨hfz12_0, hfz12_1, hfz12_2, hfz12_3, hfz12_4⟩ := fz5_ BK102.out) | (go_at_call 17; (with_reducible refine (ca_.calls a1_0 a1_1 a1_2 a1_3 a1_4 t104 _ A8.out).mono ?_); rintro e w13 ⟨rfl, hb⟩; replace BK101 := Aside0.mk (aa_ (kz BK101.out) hb); replace BK102 := Aside0.mk (aa_ (kz BK102.out) hb); replace HB := Aside0.mk (ad_ (bq) hb); (try clear hb)))
  go_meet
  case rel => exact ⟨_, (!t104), (by first | rfl | (simp; done) | (simp [*]; done)), H', ⟨by first | omega | exact Nat.le_refl _⟩, ⟨by (with_reducible repeat (first | refine aL_ ?_ _ | refine av_ ?_ | refine aM_ ?_ _)); exact BK101.out⟩, ⟨by (with_reducible repeat (first | refine aL_ ?_ _ | refine av_ ?_ | refine aM_ ?_ _)); exact BK102.out⟩, ⟨bq⟩⟩
 case rest =>
  clear HC3
  obtain ⟨kq, x18_2, rfl, HA, HJ2, BK101, BK102, HB⟩ := hcut
  cases kq with
  | zero => exact absurd HA.out (by simp [az_.j0])
  | succ kj2 =>
   have H := HA.out
   clear HA
   simp only [az_.j0] at H
   by_cases c17 : x18_2 = true
   rotate_left
   ·replace c17 := Bool.eq_false_iff.mpr c17
    subst c17
    have H1 : (az_.l0 kj2 0 l0_4 (l0_4.length : Int) 0 a0_0 a0_1 l0_2 l0_3 l0_4 a1_0 a1_1 a1_2 a1_3 a1_4) = some (r1, r2) := by rw [if_neg (show ¬ (false = true) by decide)] at H; exact H
    clear H
    have H := H1
    clear H1
    have H' := Aside0.mk H
    clear H
    have hnb18 := NB101_102.out
    have hnc18 := NB102_101.out
    obtain ⟨hcz19_0, hcz19_1, hcz19_2, hcz19_3, hcz19_4⟩ := cz5_ BK101.out
    obtain ⟨hfz19_0, hfz19_1, hfz19_2, hfz19_3, hfz19_4⟩ := fz5_ BK101.out
    go_wp2
    (try simp only [Act.put, lsa_, ls0_, ls1_])
    go_loopg [6, 22] kj2 (fun kq v6 v22 w' => ∃ (x6_2 : Int) (x22_2 : Int), v6 = .int .i64 x6_2 ∧ v22 = .int .i64 x22_2 ∧ Aside0 (az_.l0 kq x6_2 l0_4 (l0_4.length : Int) x22_2 a0_0 a0_1 l0_2 l0_3 l0_4 a1_0 a1_1 a1_2 a1_3 a1_4 = some (r1, r2)) ∧ Aside0 (kq ≤ kj2) ∧ Aside0 (w'.heap[gb101]? = some (.cells #[.int .i64 a0_0, .int .i64 a0_1, (.slice A0_2 l0_2.length c0_2), (.slice A0_3 l0_3.length c0_3), (.slice A0_4 l0_4.length c0_4)] 40 (0, 0))) ∧ Aside0 (w'.heap[gb102]? = some (.cells #[.int .i64 a1_0, .int .i64 a1_1, .int .i64 a1_2, .int .i64 a1_3, .int .i64 a1_4] 42 (0, 0))) ∧ Aside0 (Below w.heap.size w w'))
    case atStart => exact ⟨(0), (0), (by first | rfl | (simp; done) | (simp [*]; done)), (by first | rfl | (simp; done) | (simp [*]; done)), H', ⟨Nat.le_refl _⟩, ⟨by (with_reducible repeat (first | refine aL_ ?_ _ | refine av_ ?_ | refine aM_ ?_ _)); exact BK101.out⟩, ⟨by (with_reducible repeat (first | refine aL_ ?_ _ | refine av_ ?_ | refine aM_ ?_ _)); exact BK102.out⟩, ⟨bq⟩⟩
    case round =>
     clear H'
     obtain ⟨x6_2, x22_2, rfl, rfl, HA, HK2, BK101, BK102, HB⟩ := hrel
     cases gk with
     | zero => exact absurd HA.out (by simp [az_.l0])
     | succ k2 =>
      have H := HA.out
      clear HA
      simp only [az_.l0] at H
      by_cases c20 : x22_2 < (l0_4.length : Int)
      rotate_left
      ·rw [if_neg c20] at H
       have c20b0 : decide (x22_2 < (l0_4.length : Int)) = false := decide_eq_false c20
       clear c20
       replace H := Option.bind_eq_some_iff.mp H
       obtain ⟨t113, A350, H⟩ := H
       (try dsimp only at H)
       have A35 := Aside0.mk A350
       clear A350
       simp only [Option.some.injEq, Prod.mk.injEq] at H
       obtain ⟨rfl, rfl⟩ := H
       go_wp2_with (first | ((with_reducible refine an_ (f := 21) rfl ?_); refine aU_ (some 48) rfl rfl Try.func21 (by kernel_rfl) rfl #[.int .i64 x6_2, .int .i64 200000000] rfl (by first | rfl | (simp only [lma_, lmc_, lmn_]; first | done | rfl)) ?_; (with_reducible refine (impl_upDiv.calls x6_2 200000000 t113 _ A35.out).mono ?_); rintro e w' ⟨rfl, ⟨nd, rfl⟩⟩; refine ⟨_, rfl, ?_⟩))
       go_ret2
       exact ⟨by first | rfl | (simp [*, ah_, ai_] <;> rfl), bq⟩
      rw [if_pos c20] at H
      have c20b0 : decide (x22_2 < (l0_4.length : Int)) = true := decide_eq_true c20
      clear c20
      by_cases c21 : 0 ≤ x22_2
      rotate_left
      ·rw [if_neg c21] at H
       exact absurd H (by simp)
      rw [if_pos c21] at H
      have c21b0 : decide (0 ≤ x22_2) = true := decide_eq_true c21
      clear c21
      by_cases c22 : x22_2 < (l0_4.length : Int)
      rotate_left
      ·rw [if_neg c22] at H
       exact absurd H (by simp)
      rw [if_pos c22] at H
      have c22b0 : decide (x22_2 < (l0_4.length : Int)) = true := decide_eq_true c22
      clear c22
      replace H := Option.bind_eq_some_iff.mp H
      obtain ⟨⟨t107, t108⟩, A230, H⟩ := H
      (try dsimp only at H)
      have A23 := Aside0.mk A230
      clear A230
      replace H := Option.bind_eq_some_iff.mp H
      obtain ⟨t109, A240, H⟩ := H
      (try dsimp only at H)
      have A24 := Aside0.mk A240
      clear A240
      replace H := Option.bind_eq_some_iff.mp H
      obtain ⟨t112, A250, H⟩ := H
      (try dsimp only at H)
      have A25 := Aside0.mk A250
      clear A250
      have H' := Aside0.mk H
      clear H
      have p105 : 0 ≤ (x22_2 : Int) := of_decide_eq_true (by assumption)
      have q105 : x22_2 < (l0_4.length : Int) := of_decide_eq_true (by assumption)
      obtain ⟨ad105, e105, hx105_0, hx105_1, hx105_2⟩ := at_T56 HR0_4.out x22_2 p105 q105
      cases e105
      replace hx105_0 := bu_ HB.out hx105_0
      replace hx105_1 := bu_ HB.out hx105_1
      replace hx105_2 := bu_ HB.out hx105_2
      replace p105 := eq_true p105
      replace q105 := eq_true q105
      try go_wp2_with (first | ((with_reducible refine al_ (N := 8) rfl ?_); refine ak_ ?hg (N := 8) ?hd (cs := #[.string (⟨#[]⟩ : ByteArray), .int .i64 0, .int .i64 0]) (t := 56) ?hr ?_; (case hd => rfl); (case hg => rfl); (case hr => (go_simp; try rfl)); intro gb106 hg w26 hbox hb; have BK106 := Aside0.mk (hbox); have GW106 := Aside0.mk ((by rw [hg]; exact (ae_ (bq)) : w.heap.size ≤ gb106)); have GE106 := GW106; replace HB := Aside0.mk (ad_ (bq) hb); have NB101_106 := Aside0.mk ((by rw [hg]; exact Nat.ne_of_lt (aj_ (kz BK101.out)) : gb101 ≠ gb106)); have NB106_101 := Aside0.mk ((by rw [hg]; exact Nat.ne_of_gt (aj_ (kz BK101.out)) : gb106 ≠ gb101)); replace BK101 := Aside0.mk (aa_ (kz BK101.out) hb); have NB102_106 := Aside0.mk ((by rw [hg]; exact Nat.ne_of_lt (aj_ (kz BK102.out)) : gb102 ≠ gb106)); have NB106_102 := Aside0.mk ((by rw [hg]; exact Nat.ne_of_gt (aj_ (kz BK102.out)) : gb106 ≠ gb102)); replace BK102 := Aside0.mk (aa_ (kz BK102.out) hb); clear hb hbox hg; have hnb27 := NB106_101.out; have hnc27 := NB101_106.out; have hnb28 := NB106_102.out; have hnc28 := NB102_106.out; obtain ⟨hcz29_0, hcz29_1, hcz29_2⟩ := cz3_ BK106.out; obtain ⟨hfz29_0, hfz29_1, hfz29_2⟩ := fz3_ BK106.out) | ((with_reducible refine an_ (f := 18) rfl ?_); refine aU_ (some 30) rfl rfl Try.func18 (by kernel_rfl) rfl #[.string ((aR_ l0_4 x22_2).f0)] rfl (by first | rfl | (simp only [lma_, lmc_, lmn_]; first | done | rfl)) ?_; (with_reducible refine (cm_.calls ((aR_ l0_4 x22_2).f0) t107 t108 _ A23.out).mono ?_); rintro e w' ⟨rfl, ⟨nd, rfl⟩⟩; refine ⟨_, rfl, ?_⟩))
      have n0_ : Aside0 ((((w26.setCell ⟨gb106, 0, none⟩ (.string ((aR_ l0_4 x22_2).f0))).setCell ⟨gb106, 1, none⟩ (.int .i64 ((aR_ l0_4 x22_2).f1))).setCell ⟨gb106, 2, none⟩ (.int .i64 ((aR_ l0_4 x22_2).f2))).heap[gb101]? = some (.cells #[.int .i64 a0_0, .int .i64 a0_1, .slice A0_2 l0_2.length c0_2, .slice A0_3 l0_3.length c0_3, .slice (some ad105) l0_4.length c0_4] 40 (0, 0))) := ⟨by exact kf (kf (kf (kz BK101.out) NB101_106.out) NB101_106.out) NB101_106.out⟩
      have n1_ : Aside0 ((((w26.setCell ⟨gb106, 0, none⟩ (.string ((aR_ l0_4 x22_2).f0))).setCell ⟨gb106, 1, none⟩ (.int .i64 ((aR_ l0_4 x22_2).f1))).setCell ⟨gb106, 2, none⟩ (.int .i64 ((aR_ l0_4 x22_2).f2))).heap[gb102]? = some (.cells #[.int .i64 a1_0, .int .i64 a1_1, .int .i64 a1_2, .int .i64 a1_3, .int .i64 a1_4] 42 (0, 0))) := ⟨by exact kf (kf (kf (kz BK102.out) NB102_106.out) NB102_106.out) NB102_106.out⟩
      have n2_ : Aside0 ((((w26.setCell ⟨gb106, 0, none⟩ (.string ((aR_ l0_4 x22_2).f0))).setCell ⟨gb106, 1, none⟩ (.int .i64 ((aR_ l0_4 x22_2).f1))).setCell ⟨gb106, 2, none⟩ (.int .i64 ((aR_ l0_4 x22_2).f2))).heap[gb106]? = some (.cells #[.string ((aR_ l0_4 x22_2).f0), .int .i64 ((aR_ l0_4 x22_2).f1), .int .i64 ((aR_ l0_4 x22_2).f2)] 56 (0, 0))) := ⟨by exact kj3_2 (kj3_1 (kj3_0 (kz BK106.out)))⟩
      have n3_ : Aside0 (Below w.heap.size w (((w26.setCell ⟨gb106, 0, none⟩ (.string ((aR_ l0_4 x22_2).f0))).setCell ⟨gb106, 1, none⟩ (.int .i64 ((aR_ l0_4 x22_2).f1))).setCell ⟨gb106, 2, none⟩ (.int .i64 ((aR_ l0_4 x22_2).f2)))) := ⟨bq⟩
      (try clear BK101)
      (try clear BK102)
      (try clear BK106)
      (try clear HB)
      generalize (((w26.setCell ⟨gb106, 0, none⟩ (.string ((aR_ l0_4 x22_2).f0))).setCell ⟨gb106, 1, none⟩ (.int .i64 ((aR_ l0_4 x22_2).f1))).setCell ⟨gb106, 2, none⟩ (.int .i64 ((aR_ l0_4 x22_2).f2))) = w30 at n0_ n1_ n2_ n3_ ⊢
      have BK101 := n0_
      have BK102 := n1_
      have BK106 := n2_
      have HB := n3_
      clear n0_ n1_ n2_ n3_
      (try (rw [cR_ w30]; generalize hq_ : World.drewN w30 _ = w30; have n0_ : Aside0 (w30.heap[gb101]? = some (.cells #[.int .i64 a0_0, .int .i64 a0_1, .slice A0_2 l0_2.length c0_2, .slice A0_3 l0_3.length c0_3, .slice (some ad105) l0_4.length c0_4] 40 (0, 0))) := ⟨by rw [← hq_]; exact (kz BK101.out)⟩; have n1_ : Aside0 (w30.heap[gb102]? = some (.cells #[.int .i64 a1_0, .int .i64 a1_1, .int .i64 a1_2, .int .i64 a1_3, .int .i64 a1_4] 42 (0, 0))) := ⟨by rw [← hq_]; exact (kz BK102.out)⟩; have n2_ : Aside0 (w30.heap[gb106]? = some (.cells #[.string ((aR_ l0_4 x22_2).f0), .int .i64 ((aR_ l0_4 x22_2).f1), .int .i64 ((aR_ l0_4 x22_2).f2)] 56 (0, 0))) := ⟨by rw [← hq_]; exact (kz BK106.out)⟩; have n3_ : Aside0 (Below w.heap.size w w30) := ⟨by rw [← hq_]; exact (bq)⟩; clear BK101 BK102 BK106 HB hq_; have BK101 := n0_; have BK102 := n1_; have BK106 := n2_; have HB := n3_; clear n0_ n1_ n2_ n3_))
      have n0_ := Aside0.mk (av_ BK101.out)
      have n1_ := Aside0.mk (av_ BK102.out)
      have n2_ := Aside0.mk (av_ BK106.out)
      have n3_ := Aside0.mk (bD_ HB.out)
      clear BK101
      clear BK102
      clear BK106
      clear HB
      have BK101 := n0_
      have BK102 := n1_
      have BK106 := n2_
      have HB := n3_
      clear n0_ n1_ n2_ n3_
      refine cl_ (n := 14) (S := fun w' => w'.cell? ⟨gb101, 0, none⟩ = some (.int .i64 a0_0) ∧ w'.cell? ⟨gb101, 1, none⟩ = some (.int .i64 a0_1) ∧ w'.cell? ⟨gb101, 2, none⟩ = some (.slice A0_2 l0_2.length c0_2) ∧ w'.cell? ⟨gb101, 3, none⟩ = some (.slice A0_3 l0_3.length c0_3) ∧ w'.cell? ⟨gb101, 4, none⟩ = some (.slice (some ad105) l0_4.length c0_4) ∧ w'.cell? ⟨gb102, 0, none⟩ = some (.int .i64 a1_0) ∧ w'.cell? ⟨gb102, 1, none⟩ = some (.int .i64 a1_1) ∧ w'.cell? ⟨gb102, 2, none⟩ = some (.int .i64 a1_2) ∧ w'.cell? ⟨gb102, 3, none⟩ = some (.int .i64 a1_3) ∧ w'.cell? ⟨gb102, 4, none⟩ = some (.int .i64 a1_4)) (ds := []) #[f_,f_,f_,f_,f_,f_,f_,f_,f_,f_,f_,f_,f_,f_] (by kernel_rfl) rfl rfl ⟨(ac_ BK101.out 0).trans rfl, (ac_ BK101.out 1).trans rfl, (ac_ BK101.out 2).trans rfl, (ac_ BK101.out 3).trans rfl, (ac_ BK101.out 4).trans rfl, (ac_ BK102.out 0).trans rfl, (ac_ BK102.out 1).trans rfl, (ac_ BK102.out 2).trans rfl, (ac_ BK102.out 3).trans rfl, (ac_ BK102.out 4).trans rfl⟩ (fun hHeld => ?_); refine bo_ az_.tab8 az_.bits8 (fun HT_ HW_ => ?_)
      generalize w30.drew = w31 at BK101 BK102 BK106 HB hHeld ⊢
      refine pu 0 33 #[t_,f_,f_,f_,f_,f_,f_,f_,f_,f_,f_,f_,f_,f_] HT_ ?_
      refine pu 1 34 #[t_,t_,f_,f_,f_,f_,f_,f_,f_,f_,f_,f_,f_,f_] HT_ ?_
      refine pu 3 36 #[t_,t_,f_,t_,f_,f_,f_,f_,f_,f_,f_,f_,f_,f_] HT_ ?_
      refine pu 6 39 #[t_,t_,f_,t_,f_,f_,t_,f_,f_,f_,f_,f_,f_,f_] HT_ ?_
      refine pu 8 41 #[t_,t_,f_,t_,f_,f_,t_,f_,t_,f_,f_,f_,f_,f_] HT_ ?_
      refine tk 2 35 #[t_,t_,t_,t_,f_,f_,t_,f_,t_,f_,f_,f_,f_,f_] HT_ HW_ hHeld ?_ (hv := by rintro w' ⟨s0, s1, s2, s3, s4, s5, s6, s7, s8, s9⟩; go_simp; with_reducible rfl)
      refine tk 9 42 #[t_,t_,t_,t_,f_,f_,t_,f_,t_,t_,f_,f_,f_,f_] HT_ HW_ hHeld ?_ (hv := by rintro w' ⟨s0, s1, s2, s3, s4, s5, s6, s7, s8, s9⟩; go_simp; with_reducible rfl)
      refine pu 10 43 #[t_,t_,t_,t_,f_,f_,t_,f_,t_,t_,t_,f_,f_,f_] HT_ ?_
      refine one_ (i := 4) (N := some 37) #[t_,t_,t_,t_,t_,f_,t_,f_,t_,t_,t_,f_,f_,f_] rfl rfl (bh_ HT_.out (by kernel_rfl)) (by decide) (fun K hK => ?_)
      (first | refine goes_ Try.func20 (by kernel_rfl) rfl #[.agg #[.int .i64 a0_0, .int .i64 a0_1, .slice A0_2 l0_2.length c0_2, .slice A0_3 l0_3.length c0_3], .int .i64 x22_2] (by rfl) rfl rfl (by first | rfl | (simp only [lma_, lmc_, lmn_]; first | done | rfl)) ?_ | refine RPW.by_ Try.func20 (by kernel_rfl) rfl #[.agg #[.int .i64 a0_0, .int .i64 a0_1, .slice A0_2 l0_2.length c0_2, .slice A0_3 l0_3.length c0_3], .int .i64 x22_2] (by rfl) rfl rfl rfl (by first | rfl | (simp only [lma_, lmc_, lmn_]; first | done | rfl)) ?_ | refine RPW.bz_ Try.func20 (by kernel_rfl) rfl #[.agg #[.int .i64 a0_0, .int .i64 a0_1, .slice A0_2 l0_2.length c0_2, .slice A0_3 l0_3.length c0_3], .int .i64 x22_2] (by rfl) rfl rfl rfl (by first | rfl | (simp only [lma_, lmc_, lmn_]; first | done | rfl)) ?_)
      with_reducible refine (bj_.calls k2 a0_0 a0_1 _ _ l0_2 _ _ l0_3 x22_2 t109 _ ?side1 ?side2 ?side3 ?side4 A24.out).mono ?_
      (case side1 => exact cz (Kd.aF_ HR0_2.out HB.out))
      (case side2 => exact HC0_2.out)
      (case side3 => exact cz (Kd.aF_ HR0_3.out HB.out))
      (case side4 => exact HC0_3.out)
      rintro e w32 ⟨v110, rfl, ho0, hb⟩
      refine ⟨_, rfl, ?_⟩
      have n0_ := Aside0.mk (Kd.bq_ ho0 (ae_ (bq)))
      have n1_ := Aside0.mk (aa_ (kz BK101.out) hb)
      have n2_ := Aside0.mk (aa_ (kz BK102.out) hb)
      have n3_ := Aside0.mk (aa_ (kz BK106.out) hb)
      have n4_ := Aside0.mk (ad_ (bq) hb)
      clear BK101
      clear BK102
      clear BK106
      clear HB
      have HO111 := n0_
      have BK101 := n1_
      have BK102 := n2_
      have BK106 := n3_
      have HB := n4_
      clear n0_ n1_ n2_ n3_ n4_
      (try clear hb)
      (try clear ho0)
      obtain ⟨Ao33, co33, eo33⟩ := Kd.bR_ HO111.out
      (first | subst eo33 | (injection eo33 with f1_ f2_ f3_; have f4_ := f1_.symm; have f5_ := f3_.symm; clear f1_ f2_ f3_; subst f4_; subst f5_))
      refine hK.out _ _ ⟨(ac_ BK101.out 0).trans rfl, (ac_ BK101.out 1).trans rfl, (ac_ BK101.out 2).trans rfl, (ac_ BK101.out 3).trans rfl, (ac_ BK101.out 4).trans rfl, (ac_ BK102.out 0).trans rfl, (ac_ BK102.out 1).trans rfl, (ac_ BK102.out 2).trans rfl, (ac_ BK102.out 3).trans rfl, (ac_ BK102.out 4).trans rfl⟩ (fun hHeld => ?_)
      clear hK K
      refine norm_ (a' := ?_) ?_ ?_
      rotate_left
      ·show Act.put _ (some 37) _ = _
       simp only [Act.put, lsa_, ls0_, ls1_, i64_w, i32_w]
       rfl
      refine one_ (i := 5) (N := some 38) #[t_,t_,t_,t_,t_,t_,t_,f_,t_,t_,t_,f_,f_,f_] rfl rfl (bh_ HT_.out (by kernel_rfl)) (by decide) (fun K hK => ?_)
      (first | refine goes_ Try.func19 (by kernel_rfl) rfl #[.slice Ao33 t109.length co33] (by rfl) rfl rfl (by first | rfl | (simp only [lma_, lmc_, lmn_]; first | done | rfl)) ?_ | refine RPW.by_ Try.func19 (by kernel_rfl) rfl #[.slice Ao33 t109.length co33] (by rfl) rfl rfl rfl (by first | rfl | (simp only [lma_, lmc_, lmn_]; first | done | rfl)) ?_ | refine RPW.bz_ Try.func19 (by kernel_rfl) rfl #[.slice Ao33 t109.length co33] (by rfl) rfl rfl rfl (by first | rfl | (simp only [lma_, lmc_, lmn_]; first | done | rfl)) ?_)
      with_reducible refine (br_.calls k2 _ _ t109 t112 _ ?side1 ?side2 A25.out).mono ?_
      (case side1 => exact cz (Kd.aV_ HO111.out).2.2)
      (case side2 => exact (Kd.aV_ HO111.out).2.1)
      rintro e w34 ⟨rfl, hb⟩
      refine ⟨_, rfl, ?_⟩
      have n0_ := Aside0.mk (Kd.bM_ (rz HO111.out) hb)
      have n1_ := Aside0.mk (aa_ (kz BK101.out) hb)
      have n2_ := Aside0.mk (aa_ (kz BK102.out) hb)
      have n3_ := Aside0.mk (aa_ (kz BK106.out) hb)
      have n4_ := Aside0.mk (ad_ (bq) hb)
      clear HO111
      clear BK101
      clear BK102
      clear BK106
      clear HB
      have HO111 := n0_
      have BK101 := n1_
      have BK102 := n2_
      have BK106 := n3_
      have HB := n4_
      clear n0_ n1_ n2_ n3_ n4_
      (try clear hb)
      refine hK.out _ _ ⟨(ac_ BK101.out 0).trans rfl, (ac_ BK101.out 1).trans rfl, (ac_ BK101.out 2).trans rfl, (ac_ BK101.out 3).trans rfl, (ac_ BK101.out 4).trans rfl, (ac_ BK102.out 0).trans rfl, (ac_ BK102.out 1).trans rfl, (ac_ BK102.out 2).trans rfl, (ac_ BK102.out 3).trans rfl, (ac_ BK102.out 4).trans rfl⟩ (fun hHeld => ?_)
      clear hK K
      refine norm_ (a' := ?_) ?_ ?_
      rotate_left
      ·show Act.put _ (some 38) _ = _
       simp only [Act.put, lsa_, ls0_, ls1_, i64_w, i32_w]
       rfl
      refine pu 7 40 #[t_,t_,t_,t_,t_,t_,t_,t_,t_,t_,t_,f_,f_,f_] HT_ ?_
      refine pu 11 44 #[t_,t_,t_,t_,t_,t_,t_,t_,t_,t_,t_,t_,f_,f_] HT_ ?_
      refine pu 12 45 #[t_,t_,t_,t_,t_,t_,t_,t_,t_,t_,t_,t_,t_,f_] HT_ ?_
      refine pu 13 6 #[t_,t_,t_,t_,t_,t_,t_,t_,t_,t_,t_,t_,t_,t_] HT_ ?_
      refine done_ (bS_ HT_.out (by kernel_rfl)) ?_
      try go_wp2
      go_roundg k2
      case measure => have := HJ2.out; have := HK2.out; omega
      case rel => exact ⟨(wrap64 (x6_2 + (wrap64 ((wrap64 (t112 * t107)) * (wrap64 (100 + a1_3)))))), (wrap64 (x22_2 + 1)), (by first | rfl | (simp; done) | (simp [*]; done)), (by first | rfl | (simp; done) | (simp [*]; done)), H', ⟨by have := HJ2.out; have := HK2.out; omega⟩, ⟨by (with_reducible repeat (first | refine aL_ ?_ _ | refine av_ ?_ | refine aM_ ?_ _)); exact BK101.out⟩, ⟨by (with_reducible repeat (first | refine aL_ ?_ _ | refine av_ ?_ | refine aM_ ?_ _)); exact BK102.out⟩, ⟨bq⟩⟩
   subst c17
   have H1 : (some (0, 1)) = some (r1, r2) := by rw [if_pos rfl] at H; exact H
   clear H
   have H := H1
   clear H1
   simp only [Option.some.injEq, Prod.mk.injEq] at H
   obtain ⟨rfl, rfl⟩ := H
   go_wp2
   go_ret2
   exact ⟨by first | rfl | (simp [*, ah_, ai_] <;> rfl), bq⟩
def di_.f (a0_0 : Int) (a0_1 : Int) (a1_0 : Int) (a1_1 : Int) : Option (Bool) := if a0_0 = a1_0 then (if a0_1 = a1_1 then (some true) else (some false)) else (some false)
set_option maxHeartbeats 8000000 in
set_option maxRecDepth 100000 in
theorem di_.calls (a0_0 : Int) (a0_1 : Int) (a1_0 : Int) (a1_1 : Int) (r : Bool) (w : World) (h : di_.f a0_0 a0_1 a1_0 a1_1 = some r) :
  Calls Try.prog 58 #[.agg #[.int .i64 a0_0, .int .i64 a0_1], .agg #[.int .i64 a1_0, .int .i64 a1_1]] w fun e w' => e = .returned (.bool r) ∧ Below w.heap.size w w' := by
 have hu81 := Try.underlying81
 have HB := Aside0.mk (Below.refl w.heap.size w)
 have H : (if a0_0 = a1_0 then (if a0_1 = a1_1 then (some true) else (some false)) else (some false)) = some r := h
 clear h
 have HC3 := Aside0.mk H
 clear H
 go_enter Try.func58, Try.ntmps58
 go_upto_if 9 with (first | ((with_reducible refine al_ (N := 2) rfl ?_); refine ak_ ?hg (N := 2) ?hd (cs := #[.int .i64 a0_0, .int .i64 a0_1]) (t := 81) ?hr ?_; (case hd => rfl); (case hg => rfl); (case hr => (go_simp; try rfl)); intro gb101 hg w4 hbox hb; have BK101 := Aside0.mk (hbox); have GW101 := Aside0.mk ((by rw [hg]; exact (ae_ (bz HB.out)) : w.heap.size ≤ gb101)); have GE101 := GW101; replace HB := Aside0.mk (ad_ (bz HB.out) hb); clear hb hbox hg) | ((with_reducible refine al_ (N := 3) rfl ?_); refine ak_ ?hg (N := 3) ?hd (cs := #[.int .i64 a1_0, .int .i64 a1_1]) (t := 81) ?hr ?_; (case hd => rfl); (case hg => rfl); (case hr => (go_simp; try rfl)); intro gb102 hg w5 hbox hb; have BK102 := Aside0.mk (hbox); have GW102 := Aside0.mk ((by rw [hg]; exact (ae_ (bq)) : w.heap.size ≤ gb102)); have GE102 := GW102; replace HB := Aside0.mk (ad_ (bq) hb); have NB101_102 := Aside0.mk ((by rw [hg]; exact Nat.ne_of_lt (aj_ (kz BK101.out)) : gb101 ≠ gb102)); have NB102_101 := Aside0.mk ((by rw [hg]; exact Nat.ne_of_gt (aj_ (kz BK101.out)) : gb102 ≠ gb101)); replace BK101 := Aside0.mk (aa_ (kz BK101.out) hb); clear hb hbox hg; have hnb6 := NB101_102.out; have hnc6 := NB102_101.out; obtain ⟨hcz7_0, hcz7_1⟩ := cz2_ BK101.out; obtain ⟨hfz7_0, hfz7_1⟩ := fz2_ BK101.out; obtain ⟨hcz8_0, hcz8_1⟩ := cz2_ BK102.out; obtain ⟨hfz8_0, hfz8_1⟩ := fz2_ BK102.out))
 (try simp only [Act.put, lsa_, ls0_, ls1_])
 have H := HC3.out
 clear HC3
 by_cases c9 : a0_0 = a1_0
 rotate_left
 ·rw [if_neg c9] at H
  have c9b0 : (a0_0 == a1_0) = false := beq_eq_false_iff_ne.mpr c9
  have c9b1 : (a0_0 != a1_0) = true := bne_iff_ne.mpr c9
  (first | rw [c9b0] | (simp only [i64_w, i32_w]; rw [c9b0]) | (simp only [c9b1, Bool.not_true, Bool.not_false]) | (simp only [c9b0, Bool.not_true, Bool.not_false]) | skip)
  obtain rfl := Option.some.inj H
  go_wp2
  go_ret
  exact ⟨by first | rfl | (simp [*, ah_, ai_] <;> rfl), bq⟩
 rw [if_pos c9] at H
 have c9b0 : (a0_0 == a1_0) = true := beq_iff_eq.mpr c9
 have c9b1 : (a0_0 != a1_0) = false := bne_eq_false_iff_eq.mpr c9
 clear c9
 (first | rw [c9b0] | (simp only [i64_w, i32_w]; rw [c9b0]) | (simp only [c9b1, Bool.not_true, Bool.not_false]) | (simp only [c9b0, Bool.not_true, Bool.not_false]) | skip)
 by_cases c10 : a0_1 = a1_1
 rotate_left
 ·rw [if_neg c10] at H
  have c10b0 : (a0_1 == a1_1) = false := beq_eq_false_iff_ne.mpr c10
  have c10b1 : (a0_1 != a1_1) = true := bne_iff_ne.mpr c10
  obtain rfl := Option.some.inj H
  have hnb14 := NB101_102.out
  have hnc14 := NB102_101.out
  obtain ⟨hcz15_0, hcz15_1⟩ := cz2_ BK101.out
  obtain ⟨hfz15_0, hfz15_1⟩ := fz2_ BK101.out
  obtain ⟨hcz16_0, hcz16_1⟩ := cz2_ BK102.out
  obtain ⟨hfz16_0, hfz16_1⟩ := fz2_ BK102.out
  go_wp2
  go_ret
  exact ⟨by first | rfl | (simp [*, ah_, ai_] <;> rfl), bq⟩
 rw [if_pos c10] at H
 have c10b0 : (a0_1 == a1_1) = true := beq_iff_eq.mpr c10
 have c10b1 : (a0_1 != a1_1) = false := bne_eq_false_iff_eq.mpr c10
 clear c10
 obtain rfl := Option.some.inj H
 have hnb11 := NB101_102.out
 have hnc11 := NB102_101.out
 obtain ⟨hcz12_0, hcz12_1⟩ := cz2_ BK101.out
 obtain ⟨hfz12_0, hfz12_1⟩ := fz2_ BK101.out
 obtain ⟨hcz13_0, hcz13_1⟩ := cz2_ BK102.out
 obtain ⟨hfz13_0, hfz13_1⟩ := fz2_ BK102.out
 go_wp2
 go_ret
 exact ⟨by first | rfl | (simp [*, ah_, ai_] <;> rfl), bq⟩
def aW_.l0 : Nat → List (S81) → List (S81) → Int → Option (Bool)
 | 0, _, _, _ => none
 | k + 1, x0, x1, x5 => if x5 < (x0.length : Int) then (if 0 ≤ x5 then (if x5 < (x1.length : Int) then ((di_.f ((ab_ x0 x5).f0) ((ab_ x0 x5).f1) ((ab_ x1 x5).f0) ((ab_ x1 x5).f1)).bind fun t103 => (if t103 = true then (aW_.l0 k x0 x1 (wrap64 (x5 + 1))) else (some false))) else (none)) else (none)) else (some true)
def aW_.f (k : Nat) (l0 : List (S81)) (l1 : List (S81)) : Option (Bool) := if (l0.length : Int) = (l1.length : Int) then (aW_.l0 k l0 l1 0) else (some false)
def aW_.T6 : Bool × List (List Nat × List Nat) := (true, [([], []), ([], []), ([0, 1], [0, 1]), ([2], [2]), ([], []), ([], []), ([4, 5], [4, 5]), ([6], [6]), ([3, 7], [3, 7]), ([8], [8])])
def aW_.B6 : List Nat := [0, 0, 3, 7, 0, 0, 48, 112, 255, 511]
theorem aW_.tab6 : rtab .any (opsOf Try.f41 6) = aW_.T6 := by kernel_rfl
theorem aW_.bits6 : cj_ aW_.T6.2 aW_.B6 = true := by kernel_rfl
set_option maxHeartbeats 8000000 in
set_option maxRecDepth 100000 in
theorem aW_.calls (k : Nat) (A0 : Option Addr) (c0 : Nat) (l0 : List (S81)) (A1 : Option Addr) (c1 : Nat) (l1 : List (S81)) (r : Bool) (w : World) (hr0 : Kd.C k81 w A0 l0.length l0) (hc0 : l0.length ≤ c0) (hr1 : Kd.C k81 w A1 l1.length l1) (hc1 : l1.length ≤ c1) (h : aW_.f k l0 l1 = some r) :
  Calls Try.prog 41 #[.slice A0 l0.length c0, .slice A1 l1.length c1] w fun e w' => e = .returned (.bool r) ∧ Below w.heap.size w w' := by
 have hu81 := Try.underlying81
 have HR0 := Aside0.mk hr0
 have HC0 := Aside0.mk hc0
 clear hr0 hc0
 have HR1 := Aside0.mk hr1
 have HC1 := Aside0.mk hc1
 clear hr1 hc1
 have HB := Aside0.mk (Below.refl w.heap.size w)
 have H : (if (l0.length : Int) = (l1.length : Int) then (aW_.l0 k l0 l1 0) else (some false)) = some r := h
 clear h
 by_cases c3 : (l0.length : Int) = (l1.length : Int)
 rotate_left
 ·rw [if_neg c3] at H
  have c3b0 : ((l0.length : Int) == (l1.length : Int)) = false := beq_eq_false_iff_ne.mpr c3
  have c3b1 : ((l0.length : Int) != (l1.length : Int)) = true := bne_iff_ne.mpr c3
  have c3b2 : (l0.length == l1.length) = false := by first | simpa using c3 | (simp at c3 ⊢; omega)
  obtain rfl := Option.some.inj H
  go_enter Try.func41, Try.ntmps41
  go_wp2
  go_ret
  exact ⟨by first | rfl | (simp [*, ah_, ai_] <;> rfl), bz HB.out⟩
 rw [if_pos c3] at H
 have c3b0 : ((l0.length : Int) == (l1.length : Int)) = true := beq_iff_eq.mpr c3
 have c3b1 : ((l0.length : Int) != (l1.length : Int)) = false := bne_eq_false_iff_eq.mpr c3
 have c3b2 : (l0.length == l1.length) = true := by first | simpa using c3 | (simp at c3 ⊢; omega)
 clear c3
 have H' := Aside0.mk H
 clear H
 go_enter Try.func41, Try.ntmps41
 go_wp2
 (try simp only [Act.put, lsa_, ls0_, ls1_])
 go_loopg [5] k (fun kq v5 w' => ∃ (x5_1 : Int), v5 = .int .i64 x5_1 ∧ Aside0 (aW_.l0 kq l0 l1 x5_1 = some r) ∧ Aside0 (kq ≤ k) ∧ Aside0 (Below w.heap.size w w'))
 case atStart => exact ⟨(0), (by first | rfl | (simp; done) | (simp [*]; done)), H', ⟨Nat.le_refl _⟩, ⟨bz HB.out⟩⟩
 case round =>
  clear H'
  obtain ⟨x5_1, rfl, HA, HK1, HB⟩ := hrel
  cases gk with
  | zero => exact absurd HA.out (by simp [aW_.l0])
  | succ k1 =>
   have H := HA.out
   clear HA
   simp only [aW_.l0] at H
   by_cases c4 : x5_1 < (l0.length : Int)
   rotate_left
   ·rw [if_neg c4] at H
    have c4b0 : decide (x5_1 < (l0.length : Int)) = false := decide_eq_false c4
    clear c4
    obtain rfl := Option.some.inj H
    go_wp2
    go_ret
    exact ⟨by first | rfl | (simp [*, ah_, ai_] <;> rfl), bz HB.out⟩
   rw [if_pos c4] at H
   have c4b0 : decide (x5_1 < (l0.length : Int)) = true := decide_eq_true c4
   clear c4
   by_cases c5 : 0 ≤ x5_1
   rotate_left
   ·rw [if_neg c5] at H
    exact absurd H (by simp)
   rw [if_pos c5] at H
   have c5b0 : decide (0 ≤ x5_1) = true := decide_eq_true c5
   clear c5
   by_cases c6 : x5_1 < (l1.length : Int)
   rotate_left
   ·rw [if_neg c6] at H
    exact absurd H (by simp)
   rw [if_pos c6] at H
   have c6b0 : decide (x5_1 < (l1.length : Int)) = true := decide_eq_true c6
   clear c6
   replace H := Option.bind_eq_some_iff.mp H
   obtain ⟨t103, A70, H⟩ := H
   (try dsimp only at H)
   have A7 := Aside0.mk A70
   clear A70
   have HC8 := Aside0.mk H
   clear H
   try go_wp2
   have n0_ := Aside0.mk (bD_ HB.out)
   clear HB
   have HB := n0_
   clear n0_
   have p101 : 0 ≤ (x5_1 : Int) := of_decide_eq_true (by assumption)
   have q101 : x5_1 < (l0.length : Int) := of_decide_eq_true (by assumption)
   obtain ⟨ad101, e101, hx101_0, hx101_1⟩ := bX_ HR0.out x5_1 p101 q101
   have hw101_1 := hx101_1
   have hw101_0 := hx101_0
   cases e101
   replace hx101_0 := bu_ HB.out hx101_0
   replace hx101_1 := bu_ HB.out hx101_1
   replace p101 := eq_true p101
   replace q101 := eq_true q101
   have p102 : 0 ≤ (x5_1 : Int) := of_decide_eq_true (by assumption)
   have q102 : x5_1 < (l1.length : Int) := of_decide_eq_true (by assumption)
   obtain ⟨ad102, e102, hx102_0, hx102_1⟩ := bX_ HR1.out x5_1 p102 q102
   have hw102_1 := hx102_1
   have hw102_0 := hx102_0
   cases e102
   replace hx102_0 := bu_ HB.out hx102_0
   replace hx102_1 := bu_ HB.out hx102_1
   replace p102 := eq_true p102
   replace q102 := eq_true q102
   refine cl_ (n := 10) (S := fun w' => w'.cell? (ad101.add ((x5_1).toNat * 2)) = some (.int .i64 ((ab_ l0 x5_1).f0)) ∧ w'.cell? ⟨(ad101.add ((x5_1).toNat * 2)).block, (ad101.add ((x5_1).toNat * 2)).off + 1, none⟩ = some (.int .i64 ((ab_ l0 x5_1).f1)) ∧ w'.cell? (ad102.add ((x5_1).toNat * 2)) = some (.int .i64 ((ab_ l1 x5_1).f0)) ∧ w'.cell? ⟨(ad102.add ((x5_1).toNat * 2)).block, (ad102.add ((x5_1).toNat * 2)).off + 1, none⟩ = some (.int .i64 ((ab_ l1 x5_1).f1))) (ds := []) #[f_,f_,f_,f_,f_,f_,f_,f_,f_,f_] (by kernel_rfl) rfl rfl ⟨(bv_ HB.out hw101_0), (bv_ HB.out hw101_1), (bv_ HB.out hw102_0), (bv_ HB.out hw102_1)⟩ (fun hHeld => ?_); refine bo_ aW_.tab6 aW_.bits6 (fun HT_ HW_ => ?_)
   generalize wr.drew = w9 at HB hx101_0 hx101_1 hx102_0 hx102_1 hHeld ⊢
   refine pu 0 17 #[t_,f_,f_,f_,f_,f_,f_,f_,f_,f_] HT_ ?_
   refine pu 1 18 #[t_,t_,f_,f_,f_,f_,f_,f_,f_,f_] HT_ ?_
   refine pu 2 19 #[t_,t_,t_,f_,f_,f_,f_,f_,f_,f_] HT_ ?_
   refine pu 4 21 #[t_,t_,t_,f_,t_,f_,f_,f_,f_,f_] HT_ ?_
   refine pu 5 22 #[t_,t_,t_,f_,t_,t_,f_,f_,f_,f_] HT_ ?_
   refine pu 6 23 #[t_,t_,t_,f_,t_,t_,t_,f_,f_,f_] HT_ ?_
   refine tk 3 20 #[t_,t_,t_,t_,t_,t_,t_,f_,f_,f_] HT_ HW_ hHeld ?_ (hv := by rintro w' ⟨s0, s1, s2, s3⟩; go_simp; with_reducible rfl)
   refine tk 7 24 #[t_,t_,t_,t_,t_,t_,t_,t_,f_,f_] HT_ HW_ hHeld ?_ (hv := by rintro w' ⟨s0, s1, s2, s3⟩; go_simp; with_reducible rfl)
   refine one_ (i := 8) (N := some 25) #[t_,t_,t_,t_,t_,t_,t_,t_,t_,f_] rfl rfl (bh_ HT_.out (by kernel_rfl)) (by decide) (fun K hK => ?_)
   (first | refine goes_ Try.func58 (by kernel_rfl) rfl #[.agg #[.int .i64 ((ab_ l0 x5_1).f0), .int .i64 ((ab_ l0 x5_1).f1)], .agg #[.int .i64 ((ab_ l1 x5_1).f0), .int .i64 ((ab_ l1 x5_1).f1)]] (by rfl) rfl rfl (by first | rfl | (simp only [lma_, lmc_, lmn_]; first | done | rfl)) ?_ | refine RPW.by_ Try.func58 (by kernel_rfl) rfl #[.agg #[.int .i64 ((ab_ l0 x5_1).f0), .int .i64 ((ab_ l0 x5_1).f1)], .agg #[.int .i64 ((ab_ l1 x5_1).f0), .int .i64 ((ab_ l1 x5_1).f1)]] (by rfl) rfl rfl rfl (by first | rfl | (simp only [lma_, lmc_, lmn_]; first | done | rfl)) ?_ | refine RPW.bz_ Try.func58 (by kernel_rfl) rfl #[.agg #[.int .i64 ((ab_ l0 x5_1).f0), .int .i64 ((ab_ l0 x5_1).f1)], .agg #[.int .i64 ((ab_ l1 x5_1).f0), .int .i64 ((ab_ l1 x5_1).f1)]] (by rfl) rfl rfl rfl (by first | rfl | (simp only [lma_, lmc_, lmn_]; first | done | rfl)) ?_)
   with_reducible refine (di_.calls ((ab_ l0 x5_1).f0) ((ab_ l0 x5_1).f1) ((ab_ l1 x5_1).f0) ((ab_ l1 x5_1).f1) t103 _ A7.out).mono ?_
   rintro e w10 ⟨rfl, hb⟩
   refine ⟨_, rfl, ?_⟩
   have n0_ := Aside0.mk (ad_ (bz HB.out) hb)
   clear HB
   have HB := n0_
   clear n0_
   (try clear hb)
   refine hK.out _ _ ⟨(bv_ HB.out hw101_0), (bv_ HB.out hw101_1), (bv_ HB.out hw102_0), (bv_ HB.out hw102_1)⟩ (fun hHeld => ?_)
   clear hK K
   refine norm_ (a' := ?_) ?_ ?_
   rotate_left
   ·show Act.put _ (some 25) _ = _
    simp only [Act.put, lsa_, ls0_, ls1_, i64_w, i32_w]
    rfl
   refine pu 9 26 #[t_,t_,t_,t_,t_,t_,t_,t_,t_,t_] HT_ ?_
   refine done_ (bS_ HT_.out (by kernel_rfl)) ?_
   go_upto_if 26 with (fail)
   have H := HC8.out
   clear HC8
   by_cases c11 : t103 = true
   rotate_left
   ·replace c11 := Bool.eq_false_iff.mpr c11
    subst c11
    have H1 : (some false) = some r := by rw [if_neg (show ¬ (false = true) by decide)] at H; exact H
    clear H
    have H := H1
    clear H1
    obtain rfl := Option.some.inj H
    go_wp2
    go_ret
    exact ⟨by first | rfl | (simp [*, ah_, ai_] <;> rfl), bz HB.out⟩
   subst c11
   have H1 : (aW_.l0 k1 l0 l1 (wrap64 (x5_1 + 1))) = some r := by rw [if_pos rfl] at H; exact H
   clear H
   have H := H1
   clear H1
   have H' := Aside0.mk H
   clear H
   go_wp2
   go_roundg k1
   case measure => have := HK1.out; omega
   case rel => exact ⟨(wrap64 (x5_1 + 1)), (by first | rfl | (simp; done) | (simp [*]; done)), H', ⟨by have := HK1.out; omega⟩, ⟨bz HB.out⟩⟩
def bp_.l0 : Nat → List Int → List Int → Int → Option (Bool)
 | 0, _, _, _ => none
 | k + 1, x0, x1, x5 => if x5 < (x0.length : Int) then (if 0 ≤ x5 then (if x5 < (x1.length : Int) then (if (rd x0 x5) = (rd x1 x5) then (bp_.l0 k x0 x1 (wrap64 (x5 + 1))) else (some false)) else (none)) else (none)) else (some true)
def bp_.f (k : Nat) (l0 : List Int) (l1 : List Int) : Option (Bool) := if (l0.length : Int) = (l1.length : Int) then (bp_.l0 k l0 l1 0) else (some false)
set_option maxHeartbeats 8000000 in
set_option maxRecDepth 100000 in
theorem bp_.calls (k : Nat) (A0 : Option Addr) (c0 : Nat) (l0 : List Int) (A1 : Option Addr) (c1 : Nat) (l1 : List Int) (r : Bool) (w : World) (hr0 : Kd.C (Kd.int .i64) w A0 l0.length l0) (hc0 : l0.length ≤ c0) (hr1 : Kd.C (Kd.int .i64) w A1 l1.length l1) (hc1 : l1.length ≤ c1) (h : bp_.f k l0 l1 = some r) :
  Calls Try.prog 72 #[.slice A0 l0.length c0, .slice A1 l1.length c1] w fun e w' => e = .returned (.bool r) ∧ as_ w w' := by
 have HR0 := Aside0.mk hr0
 have HC0 := Aside0.mk hc0
 clear hr0 hc0
 have HR1 := Aside0.mk hr1
 have HC1 := Aside0.mk hc1
 clear hr1 hc1
 have H : (if (l0.length : Int) = (l1.length : Int) then (bp_.l0 k l0 l1 0) else (some false)) = some r := h
 clear h
 by_cases c3 : (l0.length : Int) = (l1.length : Int)
 rotate_left
 ·rw [if_neg c3] at H
  have c3b0 : ((l0.length : Int) == (l1.length : Int)) = false := beq_eq_false_iff_ne.mpr c3
  have c3b1 : ((l0.length : Int) != (l1.length : Int)) = true := bne_iff_ne.mpr c3
  have c3b2 : (l0.length == l1.length) = false := by first | simpa using c3 | (simp at c3 ⊢; omega)
  obtain rfl := Option.some.inj H
  go_enter Try.func72, Try.ntmps72
  go_wp2
  repeat (go_quiet (fail); try go_wp2)
  go_ret
  exact ⟨by first | rfl | (simp; done) | (simp [*]; done), by repeat (first | exact as_.refl _ | apply as_.step)⟩
 rw [if_pos c3] at H
 have c3b0 : ((l0.length : Int) == (l1.length : Int)) = true := beq_iff_eq.mpr c3
 have c3b1 : ((l0.length : Int) != (l1.length : Int)) = false := bne_eq_false_iff_eq.mpr c3
 have c3b2 : (l0.length == l1.length) = true := by first | simpa using c3 | (simp at c3 ⊢; omega)
 clear c3
 have H' := Aside0.mk H
 clear H
 go_enter Try.func72, Try.ntmps72
 go_wp2
 repeat (go_quiet (fail); try go_wp2)
 (try simp only [Act.put, lsa_, ls0_, ls1_])
 go_loopg [5] k (fun kq v5 w' => ∃ (x5_1 : Int), v5 = .int .i64 x5_1 ∧ Aside0 (bp_.l0 kq l0 l1 x5_1 = some r) ∧ Aside0 (kq ≤ k) ∧ as_ w w')
 case atStart => exact ⟨(0), (by first | rfl | (simp; done) | (simp [*]; done)), H', ⟨Nat.le_refl _⟩, by repeat (first | exact as_.refl _ | apply as_.step)⟩
 case round =>
  clear H'
  obtain ⟨x5_1, rfl, HA, HK1, ⟨m1, rfl⟩⟩ := hrel
  cases gk with
  | zero => exact absurd HA.out (by simp [bp_.l0])
  | succ k1 =>
   have H := HA.out
   clear HA
   simp only [bp_.l0] at H
   by_cases c4 : x5_1 < (l0.length : Int)
   rotate_left
   ·rw [if_neg c4] at H
    have c4b0 : decide (x5_1 < (l0.length : Int)) = false := decide_eq_false c4
    clear c4
    obtain rfl := Option.some.inj H
    go_wp2
    repeat (go_quiet (fail); try go_wp2)
    go_ret
    exact ⟨by first | rfl | (simp; done) | (simp [*]; done), by repeat (first | exact as_.refl _ | apply as_.step)⟩
   rw [if_pos c4] at H
   have c4b0 : decide (x5_1 < (l0.length : Int)) = true := decide_eq_true c4
   clear c4
   by_cases c5 : 0 ≤ x5_1
   rotate_left
   ·rw [if_neg c5] at H
    exact absurd H (by simp)
   rw [if_pos c5] at H
   have c5b0 : decide (0 ≤ x5_1) = true := decide_eq_true c5
   clear c5
   by_cases c6 : x5_1 < (l1.length : Int)
   rotate_left
   ·rw [if_neg c6] at H
    exact absurd H (by simp)
   rw [if_pos c6] at H
   have c6b0 : decide (x5_1 < (l1.length : Int)) = true := decide_eq_true c6
   clear c6
   by_cases c7 : (rd l0 x5_1) = (rd l1 x5_1)
   rotate_left
   ·rw [if_neg c7] at H
    have c7b0 : ((rd l0 x5_1) == (rd l1 x5_1)) = false := beq_eq_false_iff_ne.mpr c7
    have c7b1 : ((rd l0 x5_1) != (rd l1 x5_1)) = true := bne_iff_ne.mpr c7
    obtain rfl := Option.some.inj H
    have p101 : 0 ≤ (x5_1 : Int) := of_decide_eq_true (by assumption)
    have q101 : x5_1 < (l0.length : Int) := of_decide_eq_true (by assumption)
    obtain ⟨ad101, e101, hx101_0⟩ := Kd.at_int HR0.out x5_1 p101 q101
    cases e101
    replace p101 := eq_true p101
    replace q101 := eq_true q101
    have p102 : 0 ≤ (x5_1 : Int) := of_decide_eq_true (by assumption)
    have q102 : x5_1 < (l1.length : Int) := of_decide_eq_true (by assumption)
    obtain ⟨ad102, e102, hx102_0⟩ := Kd.at_int HR1.out x5_1 p102 q102
    cases e102
    replace p102 := eq_true p102
    replace q102 := eq_true q102
    go_wp2
    repeat (go_quiet (fail); try go_wp2)
    go_ret
    exact ⟨by first | rfl | (simp; done) | (simp [*]; done), by repeat (first | exact as_.refl _ | apply as_.step)⟩
   rw [if_pos c7] at H
   have c7b0 : ((rd l0 x5_1) == (rd l1 x5_1)) = true := beq_iff_eq.mpr c7
   have c7b1 : ((rd l0 x5_1) != (rd l1 x5_1)) = false := bne_eq_false_iff_eq.mpr c7
   clear c7
   have H' := Aside0.mk H
   clear H
   have p101 : 0 ≤ (x5_1 : Int) := of_decide_eq_true (by assumption)
   have q101 : x5_1 < (l0.length : Int) := of_decide_eq_true (by assumption)
   obtain ⟨ad101, e101, hx101_0⟩ := Kd.at_int HR0.out x5_1 p101 q101
   cases e101
   replace p101 := eq_true p101
   replace q101 := eq_true q101
   have p102 : 0 ≤ (x5_1 : Int) := of_decide_eq_true (by assumption)
   have q102 : x5_1 < (l1.length : Int) := of_decide_eq_true (by assumption)
   obtain ⟨ad102, e102, hx102_0⟩ := Kd.at_int HR1.out x5_1 p102 q102
   cases e102
   replace p102 := eq_true p102
   replace q102 := eq_true q102
   go_wp2
   repeat (go_quiet (fail); try go_wp2)
   go_roundg k1
   case measure => have := HK1.out; omega
   case rel => exact ⟨(wrap64 (x5_1 + 1)), (by first | rfl | (simp; done) | (simp [*]; done)), H', ⟨by have := HK1.out; omega⟩, by repeat (first | exact as_.refl _ | apply as_.step)⟩
def dp_.f (k : Nat) (a0_0 : ByteArray) (l0_1 : List Int) (a1_0 : ByteArray) (l1_1 : List Int) : Option (Bool) := if a0_0.toList = a1_0.toList then ((bp_.f k l0_1 l1_1).bind fun t103 => (if t103 = true then (some true) else (some false))) else (some false)
set_option maxHeartbeats 8000000 in
set_option maxRecDepth 100000 in
theorem dp_.calls (k : Nat) (a0_0 : ByteArray) (A0_1 : Option Addr) (c0_1 : Nat) (l0_1 : List Int) (a1_0 : ByteArray) (A1_1 : Option Addr) (c1_1 : Nat) (l1_1 : List Int) (r : Bool) (w : World) (hr0_1 : Kd.C (Kd.int .i64) w A0_1 l0_1.length l0_1) (hc0_1 : l0_1.length ≤ c0_1) (hr1_1 : Kd.C (Kd.int .i64) w A1_1 l1_1.length l1_1) (hc1_1 : l1_1.length ≤ c1_1) (h : dp_.f k a0_0 l0_1 a1_0 l1_1 = some r) :
  Calls Try.prog 59 #[.agg #[.string a0_0, .slice A0_1 l0_1.length c0_1], .agg #[.string a1_0, .slice A1_1 l1_1.length c1_1]] w fun e w' => e = .returned (.bool r) ∧ Below w.heap.size w w' := by
 have hu85 := Try.underlying85
 have HR0_1 := Aside0.mk hr0_1
 have HC0_1 := Aside0.mk hc0_1
 clear hr0_1 hc0_1
 have HR1_1 := Aside0.mk hr1_1
 have HC1_1 := Aside0.mk hc1_1
 clear hr1_1 hc1_1
 have HB := Aside0.mk (Below.refl w.heap.size w)
 have H : (if a0_0.toList = a1_0.toList then ((bp_.f k l0_1 l1_1).bind fun t103 => (if t103 = true then (some true) else (some false))) else (some false)) = some r := h
 clear h
 have HC3 := Aside0.mk H
 clear H
 go_enter Try.func59, Try.ntmps59
 go_upto_if 9 with (first | ((with_reducible refine al_ (N := 2) rfl ?_); refine ak_ ?hg (N := 2) ?hd (cs := #[.string a0_0, .slice A0_1 l0_1.length c0_1]) (t := 85) ?hr ?_; (case hd => rfl); (case hg => rfl); (case hr => (go_simp; try rfl)); intro gb101 hg w4 hbox hb; have BK101 := Aside0.mk (hbox); have GW101 := Aside0.mk ((by rw [hg]; exact (ae_ (bz HB.out)) : w.heap.size ≤ gb101)); have GE101 := GW101; replace HB := Aside0.mk (ad_ (bz HB.out) hb); clear hb hbox hg) | ((with_reducible refine al_ (N := 3) rfl ?_); refine ak_ ?hg (N := 3) ?hd (cs := #[.string a1_0, .slice A1_1 l1_1.length c1_1]) (t := 85) ?hr ?_; (case hd => rfl); (case hg => rfl); (case hr => (go_simp; try rfl)); intro gb102 hg w5 hbox hb; have BK102 := Aside0.mk (hbox); have GW102 := Aside0.mk ((by rw [hg]; exact (ae_ (bq)) : w.heap.size ≤ gb102)); have GE102 := GW102; replace HB := Aside0.mk (ad_ (bq) hb); have NB101_102 := Aside0.mk ((by rw [hg]; exact Nat.ne_of_lt (aj_ (kz BK101.out)) : gb101 ≠ gb102)); have NB102_101 := Aside0.mk ((by rw [hg]; exact Nat.ne_of_gt (aj_ (kz BK101.out)) : gb102 ≠ gb101)); replace BK101 := Aside0.mk (aa_ (kz BK101.out) hb); clear hb hbox hg; have hnb6 := NB101_102.out; have hnc6 := NB102_101.out; obtain ⟨hcz7_0, hcz7_1⟩ := cz2_ BK101.out; obtain ⟨hfz7_0, hfz7_1⟩ := fz2_ BK101.out; obtain ⟨hcz8_0, hcz8_1⟩ := cz2_ BK102.out; obtain ⟨hfz8_0, hfz8_1⟩ := fz2_ BK102.out))
 (try simp only [Act.put, lsa_, ls0_, ls1_])
 have H := HC3.out
 clear HC3
 by_cases c9 : a0_0.toList = a1_0.toList
 rotate_left
 ·rw [if_neg c9] at H
  have c9b0 : (a0_0.toList == a1_0.toList) = false := beq_eq_false_iff_ne.mpr c9
  have c9b1 : (a0_0.toList != a1_0.toList) = true := bne_iff_ne.mpr c9
  (first | rw [c9b0] | (simp only [i64_w, i32_w]; rw [c9b0]) | (simp only [c9b1, Bool.not_true, Bool.not_false]) | (simp only [c9b0, Bool.not_true, Bool.not_false]) | skip)
  obtain rfl := Option.some.inj H
  go_wp2
  go_ret
  exact ⟨by first | rfl | (simp [*, ah_, ai_] <;> rfl), bq⟩
 rw [if_pos c9] at H
 have c9b0 : (a0_0.toList == a1_0.toList) = true := beq_iff_eq.mpr c9
 have c9b1 : (a0_0.toList != a1_0.toList) = false := bne_eq_false_iff_eq.mpr c9
 clear c9
 (first | rw [c9b0] | (simp only [i64_w, i32_w]; rw [c9b0]) | (simp only [c9b1, Bool.not_true, Bool.not_false]) | (simp only [c9b0, Bool.not_true, Bool.not_false]) | skip)
 replace H := Option.bind_eq_some_iff.mp H
 obtain ⟨t103, A100, H⟩ := H
 (try dsimp only at H)
 have A10 := Aside0.mk A100
 clear A100
 have HC11 := Aside0.mk H
 clear H
 have hnb12 := NB101_102.out
 have hnc12 := NB102_101.out
 obtain ⟨hcz13_0, hcz13_1⟩ := cz2_ BK101.out
 obtain ⟨hfz13_0, hfz13_1⟩ := fz2_ BK101.out
 obtain ⟨hcz14_0, hcz14_1⟩ := cz2_ BK102.out
 obtain ⟨hfz14_0, hfz14_1⟩ := fz2_ BK102.out
 go_upto_if 15 with (first | ((with_reducible refine an_ (f := 72) rfl ?_); refine aU_ (some 14) rfl rfl Try.func72 (by kernel_rfl) rfl #[.slice A0_1 l0_1.length c0_1, .slice A1_1 l1_1.length c1_1] rfl (by first | rfl | (simp only [lma_, lmc_, lmn_]; first | done | rfl)) ?_; (with_reducible refine (bp_.calls k _ _ l0_1 _ _ l1_1 t103 _ ?side1 ?side2 ?side3 ?side4 A10.out).mono ?_); (case side1 => repeat (first | exact (Kd.aF_ HR0_1.out (bq)) | (with_reducible first | refine Kd.cL_ ?_ _ | refine Kd.cJ_ ?_ _ | refine Kd.dx_ ?_))); (case side2 => exact HC0_1.out); (case side3 => repeat (first | exact (Kd.aF_ HR1_1.out (bq)) | (with_reducible first | refine Kd.cL_ ?_ _ | refine Kd.cJ_ ?_ _ | refine Kd.dx_ ?_))); (case side4 => exact HC1_1.out); rintro e w' ⟨rfl, ⟨nd, rfl⟩⟩; refine ⟨_, rfl, ?_⟩; (try (rw [cR_ w5]; generalize hq_ : World.drewN w5 _ = w5; have n0_ : Aside0 (w5.heap[gb101]? = some (.cells #[.string a0_0, .slice A0_1 l0_1.length c0_1] 85 (0, 0))) := ⟨by rw [← hq_]; exact (kz BK101.out)⟩; have n1_ : Aside0 (w5.heap[gb102]? = some (.cells #[.string a1_0, .slice A1_1 l1_1.length c1_1] 85 (0, 0))) := ⟨by rw [← hq_]; exact (kz BK102.out)⟩; have n2_ : Aside0 (Below w.heap.size w w5) := ⟨by rw [← hq_]; exact (bq)⟩; clear BK101 BK102 HB hq_; have BK101 := n0_; have BK102 := n1_; have HB := n2_; clear n0_ n1_ n2_))))
 (try simp only [Act.put, lsa_, ls0_, ls1_])
 have H := HC11.out
 clear HC11
 by_cases c15 : t103 = true
 rotate_left
 ·replace c15 := Bool.eq_false_iff.mpr c15
  subst c15
  have H1 : (some false) = some r := by rw [if_neg (show ¬ (false = true) by decide)] at H; exact H
  clear H
  have H := H1
  clear H1
  obtain rfl := Option.some.inj H
  go_wp2
  go_ret
  exact ⟨by first | rfl | (simp [*, ah_, ai_] <;> rfl), bq⟩
 subst c15
 have H1 : (some true) = some r := by rw [if_pos rfl] at H; exact H
 clear H
 have H := H1
 clear H1
 obtain rfl := Option.some.inj H
 go_wp2
 go_ret
 exact ⟨by first | rfl | (simp [*, ah_, ai_] <;> rfl), bq⟩
def ba_.l0 : Nat → List (S85) → List (S85) → Int → Option (Bool)
 | 0, _, _, _ => none
 | k + 1, x0, x1, x5 => if x5 < (x0.length : Int) then (if 0 ≤ x5 then (if x5 < (x1.length : Int) then ((dp_.f k ((aA_ x0 x5).f0) ((aA_ x0 x5).f1) ((aA_ x1 x5).f0) ((aA_ x1 x5).f1)).bind fun t103 => (if t103 = true then (ba_.l0 k x0 x1 (wrap64 (x5 + 1))) else (some false))) else (none)) else (none)) else (some true)
def ba_.f (k : Nat) (l0 : List (S85)) (l1 : List (S85)) : Option (Bool) := if (l0.length : Int) = (l1.length : Int) then (ba_.l0 k l0 l1 0) else (some false)
def ba_.T6 : Bool × List (List Nat × List Nat) := (true, [([], []), ([], []), ([0, 1], [0, 1]), ([2], [2]), ([], []), ([], []), ([4, 5], [4, 5]), ([6], [6]), ([3, 7], [3, 7]), ([8], [8])])
def ba_.B6 : List Nat := [0, 0, 3, 7, 0, 0, 48, 112, 255, 511]
theorem ba_.tab6 : rtab .any (opsOf Try.f42 6) = ba_.T6 := by kernel_rfl
theorem ba_.bits6 : cj_ ba_.T6.2 ba_.B6 = true := by kernel_rfl
set_option maxHeartbeats 8000000 in
set_option maxRecDepth 100000 in
theorem ba_.calls (k : Nat) (A0 : Option Addr) (c0 : Nat) (l0 : List (S85)) (A1 : Option Addr) (c1 : Nat) (l1 : List (S85)) (r : Bool) (w : World) (hr0 : Kd.C k85 w A0 l0.length l0) (hc0 : l0.length ≤ c0) (hr1 : Kd.C k85 w A1 l1.length l1) (hc1 : l1.length ≤ c1) (h : ba_.f k l0 l1 = some r) :
  Calls Try.prog 42 #[.slice A0 l0.length c0, .slice A1 l1.length c1] w fun e w' => e = .returned (.bool r) ∧ Below w.heap.size w w' := by
 have hu85 := Try.underlying85
 have HR0 := Aside0.mk hr0
 have HC0 := Aside0.mk hc0
 clear hr0 hc0
 have HR1 := Aside0.mk hr1
 have HC1 := Aside0.mk hc1
 clear hr1 hc1
 have HB := Aside0.mk (Below.refl w.heap.size w)
 have H : (if (l0.length : Int) = (l1.length : Int) then (ba_.l0 k l0 l1 0) else (some false)) = some r := h
 clear h
 by_cases c3 : (l0.length : Int) = (l1.length : Int)
 rotate_left
 ·rw [if_neg c3] at H
  have c3b0 : ((l0.length : Int) == (l1.length : Int)) = false := beq_eq_false_iff_ne.mpr c3
  have c3b1 : ((l0.length : Int) != (l1.length : Int)) = true := bne_iff_ne.mpr c3
  have c3b2 : (l0.length == l1.length) = false := by first | simpa using c3 | (simp at c3 ⊢; omega)
  obtain rfl := Option.some.inj H
  go_enter Try.func42, Try.ntmps42
  go_wp2
  go_ret
  exact ⟨by first | rfl | (simp [*, ah_, ai_] <;> rfl), bz HB.out⟩
 rw [if_pos c3] at H
 have c3b0 : ((l0.length : Int) == (l1.length : Int)) = true := beq_iff_eq.mpr c3
 have c3b1 : ((l0.length : Int) != (l1.length : Int)) = false := bne_eq_false_iff_eq.mpr c3
 have c3b2 : (l0.length == l1.length) = true := by first | simpa using c3 | (simp at c3 ⊢; omega)
 clear c3
 have H' := Aside0.mk H
 clear H
 go_enter Try.func42, Try.ntmps42
 go_wp2
 (try simp only [Act.put, lsa_, ls0_, ls1_])
 go_loopg [5] k (fun kq v5 w' => ∃ (x5_1 : Int), v5 = .int .i64 x5_1 ∧ Aside0 (ba_.l0 kq l0 l1 x5_1 = some r) ∧ Aside0 (kq ≤ k) ∧ Aside0 (Below w.heap.size w w'))
 case atStart => exact ⟨(0), (by first | rfl | (simp; done) | (simp [*]; done)), H', ⟨Nat.le_refl _⟩, ⟨bz HB.out⟩⟩
 case round =>
  clear H'
  obtain ⟨x5_1, rfl, HA, HK1, HB⟩ := hrel
  cases gk with
  | zero => exact absurd HA.out (by simp [ba_.l0])
  | succ k1 =>
   have H := HA.out
   clear HA
   simp only [ba_.l0] at H
   by_cases c4 : x5_1 < (l0.length : Int)
   rotate_left
   ·rw [if_neg c4] at H
    have c4b0 : decide (x5_1 < (l0.length : Int)) = false := decide_eq_false c4
    clear c4
    obtain rfl := Option.some.inj H
    go_wp2
    go_ret
    exact ⟨by first | rfl | (simp [*, ah_, ai_] <;> rfl), bz HB.out⟩
   rw [if_pos c4] at H
   have c4b0 : decide (x5_1 < (l0.length : Int)) = true := decide_eq_true c4
   clear c4
   by_cases c5 : 0 ≤ x5_1
   rotate_left
   ·rw [if_neg c5] at H
    exact absurd H (by simp)
   rw [if_pos c5] at H
   have c5b0 : decide (0 ≤ x5_1) = true := decide_eq_true c5
   clear c5
   by_cases c6 : x5_1 < (l1.length : Int)
   rotate_left
   ·rw [if_neg c6] at H
    exact absurd H (by simp)
   rw [if_pos c6] at H
   have c6b0 : decide (x5_1 < (l1.length : Int)) = true := decide_eq_true c6
   clear c6
   replace H := Option.bind_eq_some_iff.mp H
   obtain ⟨t103, A70, H⟩ := H
   (try dsimp only at H)
   have A7 := Aside0.mk A70
   clear A70
   have HC8 := Aside0.mk H
   clear H
   try go_wp2
   have n0_ := Aside0.mk (bD_ HB.out)
   clear HB
   have HB := n0_
   clear n0_
   have p101 : 0 ≤ (x5_1 : Int) := of_decide_eq_true (by assumption)
   have q101 : x5_1 < (l0.length : Int) := of_decide_eq_true (by assumption)
   obtain ⟨ad101, A101_1, c101_1, e101, hx101_0, hx101_1, hl101_1, hi101_1⟩ := at_T85 HR0.out x5_1 p101 q101
   have hw101_1 := hx101_1
   have hw101_0 := hx101_0
   cases e101
   replace hx101_0 := bu_ HB.out hx101_0
   replace hx101_1 := bu_ HB.out hx101_1
   have HR101_1 := Aside0.mk hi101_1
   have HC101_1 := Aside0.mk hl101_1
   clear hi101_1 hl101_1
   replace p101 := eq_true p101
   replace q101 := eq_true q101
   have p102 : 0 ≤ (x5_1 : Int) := of_decide_eq_true (by assumption)
   have q102 : x5_1 < (l1.length : Int) := of_decide_eq_true (by assumption)
   obtain ⟨ad102, A102_1, c102_1, e102, hx102_0, hx102_1, hl102_1, hi102_1⟩ := at_T85 HR1.out x5_1 p102 q102
   have hw102_1 := hx102_1
   have hw102_0 := hx102_0
   cases e102
   replace hx102_0 := bu_ HB.out hx102_0
   replace hx102_1 := bu_ HB.out hx102_1
   have HR102_1 := Aside0.mk hi102_1
   have HC102_1 := Aside0.mk hl102_1
   clear hi102_1 hl102_1
   replace p102 := eq_true p102
   replace q102 := eq_true q102
   refine cl_ (n := 10) (S := fun w' => w'.cell? (ad101.add ((x5_1).toNat * 2)) = some (.string ((aA_ l0 x5_1).f0)) ∧ w'.cell? ⟨(ad101.add ((x5_1).toNat * 2)).block, (ad101.add ((x5_1).toNat * 2)).off + 1, none⟩ = some (.slice A101_1 ((aA_ l0 x5_1).f1).length c101_1) ∧ w'.cell? (ad102.add ((x5_1).toNat * 2)) = some (.string ((aA_ l1 x5_1).f0)) ∧ w'.cell? ⟨(ad102.add ((x5_1).toNat * 2)).block, (ad102.add ((x5_1).toNat * 2)).off + 1, none⟩ = some (.slice A102_1 ((aA_ l1 x5_1).f1).length c102_1)) (ds := []) #[f_,f_,f_,f_,f_,f_,f_,f_,f_,f_] (by kernel_rfl) rfl rfl ⟨(bv_ HB.out hw101_0), (bv_ HB.out hw101_1), (bv_ HB.out hw102_0), (bv_ HB.out hw102_1)⟩ (fun hHeld => ?_); refine bo_ ba_.tab6 ba_.bits6 (fun HT_ HW_ => ?_)
   generalize wr.drew = w9 at HB HR101_1 HR102_1 hx101_0 hx101_1 hx102_0 hx102_1 hHeld ⊢
   refine pu 0 17 #[t_,f_,f_,f_,f_,f_,f_,f_,f_,f_] HT_ ?_
   refine pu 1 18 #[t_,t_,f_,f_,f_,f_,f_,f_,f_,f_] HT_ ?_
   refine pu 2 19 #[t_,t_,t_,f_,f_,f_,f_,f_,f_,f_] HT_ ?_
   refine pu 4 21 #[t_,t_,t_,f_,t_,f_,f_,f_,f_,f_] HT_ ?_
   refine pu 5 22 #[t_,t_,t_,f_,t_,t_,f_,f_,f_,f_] HT_ ?_
   refine pu 6 23 #[t_,t_,t_,f_,t_,t_,t_,f_,f_,f_] HT_ ?_
   refine tk 3 20 #[t_,t_,t_,t_,t_,t_,t_,f_,f_,f_] HT_ HW_ hHeld ?_ (hv := by rintro w' ⟨s0, s1, s2, s3⟩; go_simp; with_reducible rfl)
   refine tk 7 24 #[t_,t_,t_,t_,t_,t_,t_,t_,f_,f_] HT_ HW_ hHeld ?_ (hv := by rintro w' ⟨s0, s1, s2, s3⟩; go_simp; with_reducible rfl)
   refine one_ (i := 8) (N := some 25) #[t_,t_,t_,t_,t_,t_,t_,t_,t_,f_] rfl rfl (bh_ HT_.out (by kernel_rfl)) (by decide) (fun K hK => ?_)
   (first | refine goes_ Try.func59 (by kernel_rfl) rfl #[.agg #[.string ((aA_ l0 x5_1).f0), .slice A101_1 ((aA_ l0 x5_1).f1).length c101_1], .agg #[.string ((aA_ l1 x5_1).f0), .slice A102_1 ((aA_ l1 x5_1).f1).length c102_1]] (by rfl) rfl rfl (by first | rfl | (simp only [lma_, lmc_, lmn_]; first | done | rfl)) ?_ | refine RPW.by_ Try.func59 (by kernel_rfl) rfl #[.agg #[.string ((aA_ l0 x5_1).f0), .slice A101_1 ((aA_ l0 x5_1).f1).length c101_1], .agg #[.string ((aA_ l1 x5_1).f0), .slice A102_1 ((aA_ l1 x5_1).f1).length c102_1]] (by rfl) rfl rfl rfl (by first | rfl | (simp only [lma_, lmc_, lmn_]; first | done | rfl)) ?_ | refine RPW.bz_ Try.func59 (by kernel_rfl) rfl #[.agg #[.string ((aA_ l0 x5_1).f0), .slice A101_1 ((aA_ l0 x5_1).f1).length c101_1], .agg #[.string ((aA_ l1 x5_1).f0), .slice A102_1 ((aA_ l1 x5_1).f1).length c102_1]] (by rfl) rfl rfl rfl (by first | rfl | (simp only [lma_, lmc_, lmn_]; first | done | rfl)) ?_)
   with_reducible refine (dp_.calls k1 ((aA_ l0 x5_1).f0) _ _ ((aA_ l0 x5_1).f1) ((aA_ l1 x5_1).f0) _ _ ((aA_ l1 x5_1).f1) t103 _ ?side1 ?side2 ?side3 ?side4 A7.out).mono ?_
   (case side1 => exact cz (Kd.aF_ HR101_1.out HB.out))
   (case side2 => exact HC101_1.out)
   (case side3 => exact cz (Kd.aF_ HR102_1.out HB.out))
   (case side4 => exact HC102_1.out)
   rintro e w10 ⟨rfl, hb⟩
   refine ⟨_, rfl, ?_⟩
   have n0_ := Aside0.mk (ad_ (bz HB.out) hb)
   clear HB
   have HB := n0_
   clear n0_
   (try clear hb)
   refine hK.out _ _ ⟨(bv_ HB.out hw101_0), (bv_ HB.out hw101_1), (bv_ HB.out hw102_0), (bv_ HB.out hw102_1)⟩ (fun hHeld => ?_)
   clear hK K
   refine norm_ (a' := ?_) ?_ ?_
   rotate_left
   ·show Act.put _ (some 25) _ = _
    simp only [Act.put, lsa_, ls0_, ls1_, i64_w, i32_w]
    rfl
   refine pu 9 26 #[t_,t_,t_,t_,t_,t_,t_,t_,t_,t_] HT_ ?_
   refine done_ (bS_ HT_.out (by kernel_rfl)) ?_
   go_upto_if 26 with (fail)
   have H := HC8.out
   clear HC8
   by_cases c11 : t103 = true
   rotate_left
   ·replace c11 := Bool.eq_false_iff.mpr c11
    subst c11
    have H1 : (some false) = some r := by rw [if_neg (show ¬ (false = true) by decide)] at H; exact H
    clear H
    have H := H1
    clear H1
    obtain rfl := Option.some.inj H
    go_wp2
    go_ret
    exact ⟨by first | rfl | (simp [*, ah_, ai_] <;> rfl), bz HB.out⟩
   subst c11
   have H1 : (ba_.l0 k1 l0 l1 (wrap64 (x5_1 + 1))) = some r := by rw [if_pos rfl] at H; exact H
   clear H
   have H := H1
   clear H1
   have H' := Aside0.mk H
   clear H
   go_wp2
   go_roundg k1
   case measure => have := HK1.out; omega
   case rel => exact ⟨(wrap64 (x5_1 + 1)), (by first | rfl | (simp; done) | (simp [*]; done)), H', ⟨by have := HK1.out; omega⟩, ⟨bz HB.out⟩⟩
def cw_.f (k : Nat) (a0_0 : Int) (a0_1 : Int) (l0_2 : List (S81)) (l0_3 : List (S85)) (a1_0 : Int) (a1_1 : Int) (l1_2 : List (S81)) (l1_3 : List (S85)) : Option (Bool) := if a0_0 = a1_0 then (if a0_1 = a1_1 then ((aW_.f k l0_2 l1_2).bind fun t103 => (if t103 = true then ((ba_.f k l0_3 l1_3).bind fun t104 => (if t104 = true then (some true) else (some false))) else (some false))) else (some false)) else (some false)
set_option maxHeartbeats 8000000 in
set_option maxRecDepth 100000 in
theorem cw_.calls (k : Nat) (a0_0 : Int) (a0_1 : Int) (A0_2 : Option Addr) (c0_2 : Nat) (l0_2 : List (S81)) (A0_3 : Option Addr) (c0_3 : Nat) (l0_3 : List (S85)) (a1_0 : Int) (a1_1 : Int) (A1_2 : Option Addr) (c1_2 : Nat) (l1_2 : List (S81)) (A1_3 : Option Addr) (c1_3 : Nat) (l1_3 : List (S85)) (r : Bool) (w : World) (hr0_2 : Kd.C k81 w A0_2 l0_2.length l0_2) (hc0_2 : l0_2.length ≤ c0_2) (hr0_3 : Kd.C k85 w A0_3 l0_3.length l0_3) (hc0_3 : l0_3.length ≤ c0_3) (hr1_2 : Kd.C k81 w A1_2 l1_2.length l1_2) (hc1_2 : l1_2.length ≤ c1_2) (hr1_3 : Kd.C k85 w A1_3 l1_3.length l1_3) (hc1_3 : l1_3.length ≤ c1_3) (h : cw_.f k a0_0 a0_1 l0_2 l0_3 a1_0 a1_1 l1_2 l1_3 = some r) :
  Calls Try.prog 22 #[.agg #[.int .i64 a0_0, .int .i64 a0_1, .slice A0_2 l0_2.length c0_2, .slice A0_3 l0_3.length c0_3], .agg #[.int .i64 a1_0, .int .i64 a1_1, .slice A1_2 l1_2.length c1_2, .slice A1_3 l1_3.length c1_3]] w fun e w' => e = .returned (.bool r) ∧ Below w.heap.size w w' := by
 have hu37 := Try.underlying37
 have HR0_2 := Aside0.mk hr0_2
 have HC0_2 := Aside0.mk hc0_2
 clear hr0_2 hc0_2
 have HR0_3 := Aside0.mk hr0_3
 have HC0_3 := Aside0.mk hc0_3
 clear hr0_3 hc0_3
 have HR1_2 := Aside0.mk hr1_2
 have HC1_2 := Aside0.mk hc1_2
 clear hr1_2 hc1_2
 have HR1_3 := Aside0.mk hr1_3
 have HC1_3 := Aside0.mk hc1_3
 clear hr1_3 hc1_3
 have HB := Aside0.mk (Below.refl w.heap.size w)
 have H : (if a0_0 = a1_0 then (if a0_1 = a1_1 then ((aW_.f k l0_2 l1_2).bind fun t103 => (if t103 = true then ((ba_.f k l0_3 l1_3).bind fun t104 => (if t104 = true then (some true) else (some false))) else (some false))) else (some false)) else (some false)) = some r := h
 clear h
 have HC3 := Aside0.mk H
 clear H
 go_enter Try.func22, Try.ntmps22
 go_upto_if 9 with (first | ((with_reducible refine al_ (N := 2) rfl ?_); refine ak_ ?hg (N := 2) ?hd (cs := #[.int .i64 a0_0, .int .i64 a0_1, .slice A0_2 l0_2.length c0_2, .slice A0_3 l0_3.length c0_3]) (t := 37) ?hr ?_; (case hd => rfl); (case hg => rfl); (case hr => (go_simp; try rfl)); intro gb101 hg w4 hbox hb; have BK101 := Aside0.mk (hbox); have GW101 := Aside0.mk ((by rw [hg]; exact (ae_ (bz HB.out)) : w.heap.size ≤ gb101)); have GE101 := GW101; replace HB := Aside0.mk (ad_ (bz HB.out) hb); clear hb hbox hg) | ((with_reducible refine al_ (N := 3) rfl ?_); refine ak_ ?hg (N := 3) ?hd (cs := #[.int .i64 a1_0, .int .i64 a1_1, .slice A1_2 l1_2.length c1_2, .slice A1_3 l1_3.length c1_3]) (t := 37) ?hr ?_; (case hd => rfl); (case hg => rfl); (case hr => (go_simp; try rfl)); intro gb102 hg w5 hbox hb; have BK102 := Aside0.mk (hbox); have GW102 := Aside0.mk ((by rw [hg]; exact (ae_ (bq)) : w.heap.size ≤ gb102)); have GE102 := GW102; replace HB := Aside0.mk (ad_ (bq) hb); have NB101_102 := Aside0.mk ((by rw [hg]; exact Nat.ne_of_lt (aj_ (kz BK101.out)) : gb101 ≠ gb102)); have NB102_101 := Aside0.mk ((by rw [hg]; exact Nat.ne_of_gt (aj_ (kz BK101.out)) : gb102 ≠ gb101)); replace BK101 := Aside0.mk (aa_ (kz BK101.out) hb); clear hb hbox hg; have hnb6 := NB101_102.out; have hnc6 := NB102_101.out; obtain ⟨hcz7_0, hcz7_1, hcz7_2, hcz7_3⟩ := cz4_ BK101.out; obtain ⟨hfz7_0, hfz7_1, hfz7_2, hfz7_3⟩ := fz4_ BK101.out; obtain ⟨hcz8_0, hcz8_1, hcz8_2, hcz8_3⟩ := cz4_ BK102.out; obtain ⟨hfz8_0, hfz8_1, hfz8_2, hfz8_3⟩ := fz4_ BK102.out))
 (try simp only [Act.put, lsa_, ls0_, ls1_])
 have H := HC3.out
 clear HC3
 by_cases c9 : a0_0 = a1_0
 rotate_left
 ·rw [if_neg c9] at H
  have c9b0 : (a0_0 == a1_0) = false := beq_eq_false_iff_ne.mpr c9
  have c9b1 : (a0_0 != a1_0) = true := bne_iff_ne.mpr c9
  (first | rw [c9b0] | (simp only [i64_w, i32_w]; rw [c9b0]) | (simp only [c9b1, Bool.not_true, Bool.not_false]) | (simp only [c9b0, Bool.not_true, Bool.not_false]) | skip)
  obtain rfl := Option.some.inj H
  go_wp2
  go_ret
  exact ⟨by first | rfl | (simp [*, ah_, ai_] <;> rfl), bq⟩
 rw [if_pos c9] at H
 have c9b0 : (a0_0 == a1_0) = true := beq_iff_eq.mpr c9
 have c9b1 : (a0_0 != a1_0) = false := bne_eq_false_iff_eq.mpr c9
 clear c9
 (first | rw [c9b0] | (simp only [i64_w, i32_w]; rw [c9b0]) | (simp only [c9b1, Bool.not_true, Bool.not_false]) | (simp only [c9b0, Bool.not_true, Bool.not_false]) | skip)
 by_cases c10 : a0_1 = a1_1
 rotate_left
 ·rw [if_neg c10] at H
  have c10b0 : (a0_1 == a1_1) = false := beq_eq_false_iff_ne.mpr c10
  have c10b1 : (a0_1 != a1_1) = true := bne_iff_ne.mpr c10
  obtain rfl := Option.some.inj H
  have hnb25 := NB101_102.out
  have hnc25 := NB102_101.out
  obtain ⟨hcz26_0, hcz26_1, hcz26_2, hcz26_3⟩ := cz4_ BK101.out
  obtain ⟨hfz26_0, hfz26_1, hfz26_2, hfz26_3⟩ := fz4_ BK101.out
  obtain ⟨hcz27_0, hcz27_1, hcz27_2, hcz27_3⟩ := cz4_ BK102.out
  obtain ⟨hfz27_0, hfz27_1, hfz27_2, hfz27_3⟩ := fz4_ BK102.out
  go_wp2
  go_ret
  exact ⟨by first | rfl | (simp [*, ah_, ai_] <;> rfl), bq⟩
 rw [if_pos c10] at H
 have c10b0 : (a0_1 == a1_1) = true := beq_iff_eq.mpr c10
 have c10b1 : (a0_1 != a1_1) = false := bne_eq_false_iff_eq.mpr c10
 clear c10
 replace H := Option.bind_eq_some_iff.mp H
 obtain ⟨t103, A110, H⟩ := H
 (try dsimp only at H)
 have A11 := Aside0.mk A110
 clear A110
 have HC12 := Aside0.mk H
 clear H
 have hnb13 := NB101_102.out
 have hnc13 := NB102_101.out
 obtain ⟨hcz14_0, hcz14_1, hcz14_2, hcz14_3⟩ := cz4_ BK101.out
 obtain ⟨hfz14_0, hfz14_1, hfz14_2, hfz14_3⟩ := fz4_ BK101.out
 obtain ⟨hcz15_0, hcz15_1, hcz15_2, hcz15_3⟩ := cz4_ BK102.out
 obtain ⟨hfz15_0, hfz15_1, hfz15_2, hfz15_3⟩ := fz4_ BK102.out
 go_upto_if 20 with (first | ((with_reducible refine an_ (f := 41) rfl ?_); refine aU_ (some 19) rfl rfl Try.func41 (by kernel_rfl) rfl #[.slice A0_2 l0_2.length c0_2, .slice A1_2 l1_2.length c1_2] rfl (by first | rfl | (simp only [lma_, lmc_, lmn_]; first | done | rfl)) ?_; (with_reducible refine (aW_.calls k _ _ l0_2 _ _ l1_2 t103 _ ?side1 ?side2 ?side3 ?side4 A11.out).mono ?_); (case side1 => repeat (first | exact (Kd.aF_ HR0_2.out (bq)) | (with_reducible first | refine Kd.cL_ ?_ _ | refine Kd.cJ_ ?_ _ | refine Kd.dx_ ?_))); (case side2 => exact HC0_2.out); (case side3 => repeat (first | exact (Kd.aF_ HR1_2.out (bq)) | (with_reducible first | refine Kd.cL_ ?_ _ | refine Kd.cJ_ ?_ _ | refine Kd.dx_ ?_))); (case side4 => exact HC1_2.out); rintro e w16 ⟨rfl, hb⟩; refine ⟨_, rfl, ?_⟩; replace BK101 := Aside0.mk (aa_ (kz BK101.out) hb); replace BK102 := Aside0.mk (aa_ (kz BK102.out) hb); replace HB := Aside0.mk (ad_ (bq) hb); (try clear hb)))
 (try simp only [Act.put, lsa_, ls0_, ls1_])
 have H := HC12.out
 clear HC12
 by_cases c17 : t103 = true
 rotate_left
 ·replace c17 := Bool.eq_false_iff.mpr c17
  subst c17
  have H1 : (some false) = some r := by rw [if_neg (show ¬ (false = true) by decide)] at H; exact H
  clear H
  have H := H1
  clear H1
  obtain rfl := Option.some.inj H
  go_wp2
  go_ret
  exact ⟨by first | rfl | (simp [*, ah_, ai_] <;> rfl), bq⟩
 subst c17
 have H1 : ((ba_.f k l0_3 l1_3).bind fun t104 => (if t104 = true then (some true) else (some false))) = some r := by rw [if_pos rfl] at H; exact H
 clear H
 have H := H1
 clear H1
 replace H := Option.bind_eq_some_iff.mp H
 obtain ⟨t104, A180, H⟩ := H
 (try dsimp only at H)
 have A18 := Aside0.mk A180
 clear A180
 have HC19 := Aside0.mk H
 clear H
 have hnb20 := NB101_102.out
 have hnc20 := NB102_101.out
 obtain ⟨hcz21_0, hcz21_1, hcz21_2, hcz21_3⟩ := cz4_ BK101.out
 obtain ⟨hfz21_0, hfz21_1, hfz21_2, hfz21_3⟩ := fz4_ BK101.out
 obtain ⟨hcz22_0, hcz22_1, hcz22_2, hcz22_3⟩ := cz4_ BK102.out
 obtain ⟨hfz22_0, hfz22_1, hfz22_2, hfz22_3⟩ := fz4_ BK102.out
 go_upto_if 26 with (first | ((with_reducible refine an_ (f := 42) rfl ?_); refine aU_ (some 25) rfl rfl Try.func42 (by kernel_rfl) rfl #[.slice A0_3 l0_3.length c0_3, .slice A1_3 l1_3.length c1_3] rfl (by first | rfl | (simp only [lma_, lmc_, lmn_]; first | done | rfl)) ?_; (with_reducible refine (ba_.calls k _ _ l0_3 _ _ l1_3 t104 _ ?side1 ?side2 ?side3 ?side4 A18.out).mono ?_); (case side1 => repeat (first | exact (Kd.aF_ HR0_3.out (bq)) | (with_reducible first | refine Kd.cL_ ?_ _ | refine Kd.cJ_ ?_ _ | refine Kd.dx_ ?_))); (case side2 => exact HC0_3.out); (case side3 => repeat (first | exact (Kd.aF_ HR1_3.out (bq)) | (with_reducible first | refine Kd.cL_ ?_ _ | refine Kd.cJ_ ?_ _ | refine Kd.dx_ ?_))); (case side4 => exact HC1_3.out); rintro e w23 ⟨rfl, hb⟩; refine ⟨_, rfl, ?_⟩; replace BK101 := Aside0.mk (aa_ (kz BK101.out) hb); replace BK102 := Aside0.mk (aa_ (kz BK102.out) hb); replace HB := Aside0.mk (ad_ (bq) hb); (try clear hb)))
 (try simp only [Act.put, lsa_, ls0_, ls1_])
 have H := HC19.out
 clear HC19
 by_cases c24 : t104 = true
 rotate_left
 ·replace c24 := Bool.eq_false_iff.mpr c24
  subst c24
  have H1 : (some false) = some r := by rw [if_neg (show ¬ (false = true) by decide)] at H; exact H
  clear H
  have H := H1
  clear H1
  obtain rfl := Option.some.inj H
  go_wp2
  go_ret
  exact ⟨by first | rfl | (simp [*, ah_, ai_] <;> rfl), bq⟩
 subst c24
 have H1 : (some true) = some r := by rw [if_pos rfl] at H; exact H
 clear H
 have H := H1
 clear H1
 obtain rfl := Option.some.inj H
 go_wp2
 go_ret
 exact ⟨by first | rfl | (simp [*, ah_, ai_] <;> rfl), bq⟩
def cS_.f (a0_0 : ByteArray) (a0_1 : Int) (a0_2 : Int) (a1_0 : ByteArray) (a1_1 : Int) (a1_2 : Int) : Option (Bool) := if a0_0.toList = a1_0.toList then (if a0_1 = a1_1 then (if a0_2 = a1_2 then (some true) else (some false)) else (some false)) else (some false)
set_option maxHeartbeats 8000000 in
set_option maxRecDepth 100000 in
theorem cS_.calls (a0_0 : ByteArray) (a0_1 : Int) (a0_2 : Int) (a1_0 : ByteArray) (a1_1 : Int) (a1_2 : Int) (r : Bool) (w : World) (h : cS_.f a0_0 a0_1 a0_2 a1_0 a1_1 a1_2 = some r) :
  Calls Try.prog 43 #[.agg #[.string a0_0, .int .i64 a0_1, .int .i64 a0_2], .agg #[.string a1_0, .int .i64 a1_1, .int .i64 a1_2]] w fun e w' => e = .returned (.bool r) ∧ Below w.heap.size w w' := by
 have hu56 := Try.underlying56
 have HB := Aside0.mk (Below.refl w.heap.size w)
 have H : (if a0_0.toList = a1_0.toList then (if a0_1 = a1_1 then (if a0_2 = a1_2 then (some true) else (some false)) else (some false)) else (some false)) = some r := h
 clear h
 have HC3 := Aside0.mk H
 clear H
 go_enter Try.func43, Try.ntmps43
 go_upto_if 9 with (first | ((with_reducible refine al_ (N := 2) rfl ?_); refine ak_ ?hg (N := 2) ?hd (cs := #[.string a0_0, .int .i64 a0_1, .int .i64 a0_2]) (t := 56) ?hr ?_; (case hd => rfl); (case hg => rfl); (case hr => (go_simp; try rfl)); intro gb101 hg w4 hbox hb; have BK101 := Aside0.mk (hbox); have GW101 := Aside0.mk ((by rw [hg]; exact (ae_ (bz HB.out)) : w.heap.size ≤ gb101)); have GE101 := GW101; replace HB := Aside0.mk (ad_ (bz HB.out) hb); clear hb hbox hg) | ((with_reducible refine al_ (N := 3) rfl ?_); refine ak_ ?hg (N := 3) ?hd (cs := #[.string a1_0, .int .i64 a1_1, .int .i64 a1_2]) (t := 56) ?hr ?_; (case hd => rfl); (case hg => rfl); (case hr => (go_simp; try rfl)); intro gb102 hg w5 hbox hb; have BK102 := Aside0.mk (hbox); have GW102 := Aside0.mk ((by rw [hg]; exact (ae_ (bq)) : w.heap.size ≤ gb102)); have GE102 := GW102; replace HB := Aside0.mk (ad_ (bq) hb); have NB101_102 := Aside0.mk ((by rw [hg]; exact Nat.ne_of_lt (aj_ (kz BK101.out)) : gb101 ≠ gb102)); have NB102_101 := Aside0.mk ((by rw [hg]; exact Nat.ne_of_gt (aj_ (kz BK101.out)) : gb102 ≠ gb101)); replace BK101 := Aside0.mk (aa_ (kz BK101.out) hb); clear hb hbox hg; have hnb6 := NB101_102.out; have hnc6 := NB102_101.out; obtain ⟨hcz7_0, hcz7_1, hcz7_2⟩ := cz3_ BK101.out; obtain ⟨hfz7_0, hfz7_1, hfz7_2⟩ := fz3_ BK101.out; obtain ⟨hcz8_0, hcz8_1, hcz8_2⟩ := cz3_ BK102.out; obtain ⟨hfz8_0, hfz8_1, hfz8_2⟩ := fz3_ BK102.out))
 (try simp only [Act.put, lsa_, ls0_, ls1_])
 have H := HC3.out
 clear HC3
 by_cases c9 : a0_0.toList = a1_0.toList
 rotate_left
 ·rw [if_neg c9] at H
  have c9b0 : (a0_0.toList == a1_0.toList) = false := beq_eq_false_iff_ne.mpr c9
  have c9b1 : (a0_0.toList != a1_0.toList) = true := bne_iff_ne.mpr c9
  (first | rw [c9b0] | (simp only [i64_w, i32_w]; rw [c9b0]) | (simp only [c9b1, Bool.not_true, Bool.not_false]) | (simp only [c9b0, Bool.not_true, Bool.not_false]) | skip)
  obtain rfl := Option.some.inj H
  go_wp2
  go_ret
  exact ⟨by first | rfl | (simp [*, ah_, ai_] <;> rfl), bq⟩
 rw [if_pos c9] at H
 have c9b0 : (a0_0.toList == a1_0.toList) = true := beq_iff_eq.mpr c9
 have c9b1 : (a0_0.toList != a1_0.toList) = false := bne_eq_false_iff_eq.mpr c9
 clear c9
 (first | rw [c9b0] | (simp only [i64_w, i32_w]; rw [c9b0]) | (simp only [c9b1, Bool.not_true, Bool.not_false]) | (simp only [c9b0, Bool.not_true, Bool.not_false]) | skip)
 by_cases c10 : a0_1 = a1_1
 rotate_left
 ·rw [if_neg c10] at H
  have c10b0 : (a0_1 == a1_1) = false := beq_eq_false_iff_ne.mpr c10
  have c10b1 : (a0_1 != a1_1) = true := bne_iff_ne.mpr c10
  obtain rfl := Option.some.inj H
  have hnb18 := NB101_102.out
  have hnc18 := NB102_101.out
  obtain ⟨hcz19_0, hcz19_1, hcz19_2⟩ := cz3_ BK101.out
  obtain ⟨hfz19_0, hfz19_1, hfz19_2⟩ := fz3_ BK101.out
  obtain ⟨hcz20_0, hcz20_1, hcz20_2⟩ := cz3_ BK102.out
  obtain ⟨hfz20_0, hfz20_1, hfz20_2⟩ := fz3_ BK102.out
  go_wp2
  go_ret
  exact ⟨by first | rfl | (simp [*, ah_, ai_] <;> rfl), bq⟩
 rw [if_pos c10] at H
 have c10b0 : (a0_1 == a1_1) = true := beq_iff_eq.mpr c10
 have c10b1 : (a0_1 != a1_1) = false := bne_eq_false_iff_eq.mpr c10
 clear c10
 by_cases c11 : a0_2 = a1_2
 rotate_left
 ·rw [if_neg c11] at H
  have c11b0 : (a0_2 == a1_2) = false := beq_eq_false_iff_ne.mpr c11
  have c11b1 : (a0_2 != a1_2) = true := bne_iff_ne.mpr c11
  obtain rfl := Option.some.inj H
  have hnb15 := NB101_102.out
  have hnc15 := NB102_101.out
  obtain ⟨hcz16_0, hcz16_1, hcz16_2⟩ := cz3_ BK101.out
  obtain ⟨hfz16_0, hfz16_1, hfz16_2⟩ := fz3_ BK101.out
  obtain ⟨hcz17_0, hcz17_1, hcz17_2⟩ := cz3_ BK102.out
  obtain ⟨hfz17_0, hfz17_1, hfz17_2⟩ := fz3_ BK102.out
  go_wp2
  go_ret
  exact ⟨by first | rfl | (simp [*, ah_, ai_] <;> rfl), bq⟩
 rw [if_pos c11] at H
 have c11b0 : (a0_2 == a1_2) = true := beq_iff_eq.mpr c11
 have c11b1 : (a0_2 != a1_2) = false := bne_eq_false_iff_eq.mpr c11
 clear c11
 obtain rfl := Option.some.inj H
 have hnb12 := NB101_102.out
 have hnc12 := NB102_101.out
 obtain ⟨hcz13_0, hcz13_1, hcz13_2⟩ := cz3_ BK101.out
 obtain ⟨hfz13_0, hfz13_1, hfz13_2⟩ := fz3_ BK101.out
 obtain ⟨hcz14_0, hcz14_1, hcz14_2⟩ := cz3_ BK102.out
 obtain ⟨hfz14_0, hfz14_1, hfz14_2⟩ := fz3_ BK102.out
 go_wp2
 go_ret
 exact ⟨by first | rfl | (simp [*, ah_, ai_] <;> rfl), bq⟩
def aS_.l0 : Nat → List (S56) → List (S56) → Int → Option (Bool)
 | 0, _, _, _ => none
 | k + 1, x0, x1, x5 => if x5 < (x0.length : Int) then (if 0 ≤ x5 then (if x5 < (x1.length : Int) then ((cS_.f ((aR_ x0 x5).f0) ((aR_ x0 x5).f1) ((aR_ x0 x5).f2) ((aR_ x1 x5).f0) ((aR_ x1 x5).f1) ((aR_ x1 x5).f2)).bind fun t103 => (if t103 = true then (aS_.l0 k x0 x1 (wrap64 (x5 + 1))) else (some false))) else (none)) else (none)) else (some true)
def aS_.f (k : Nat) (l0 : List (S56)) (l1 : List (S56)) : Option (Bool) := if (l0.length : Int) = (l1.length : Int) then (aS_.l0 k l0 l1 0) else (some false)
def aS_.T6 : Bool × List (List Nat × List Nat) := (true, [([], []), ([], []), ([0, 1], [0, 1]), ([2], [2]), ([], []), ([], []), ([4, 5], [4, 5]), ([6], [6]), ([3, 7], [3, 7]), ([8], [8])])
def aS_.B6 : List Nat := [0, 0, 3, 7, 0, 0, 48, 112, 255, 511]
theorem aS_.tab6 : rtab .any (opsOf Try.f23 6) = aS_.T6 := by kernel_rfl
theorem aS_.bits6 : cj_ aS_.T6.2 aS_.B6 = true := by kernel_rfl
set_option maxHeartbeats 8000000 in
set_option maxRecDepth 100000 in
theorem aS_.calls (k : Nat) (A0 : Option Addr) (c0 : Nat) (l0 : List (S56)) (A1 : Option Addr) (c1 : Nat) (l1 : List (S56)) (r : Bool) (w : World) (hr0 : Kd.C k56 w A0 l0.length l0) (hc0 : l0.length ≤ c0) (hr1 : Kd.C k56 w A1 l1.length l1) (hc1 : l1.length ≤ c1) (h : aS_.f k l0 l1 = some r) :
  Calls Try.prog 23 #[.slice A0 l0.length c0, .slice A1 l1.length c1] w fun e w' => e = .returned (.bool r) ∧ Below w.heap.size w w' := by
 have hu56 := Try.underlying56
 have HR0 := Aside0.mk hr0
 have HC0 := Aside0.mk hc0
 clear hr0 hc0
 have HR1 := Aside0.mk hr1
 have HC1 := Aside0.mk hc1
 clear hr1 hc1
 have HB := Aside0.mk (Below.refl w.heap.size w)
 have H : (if (l0.length : Int) = (l1.length : Int) then (aS_.l0 k l0 l1 0) else (some false)) = some r := h
 clear h
 by_cases c3 : (l0.length : Int) = (l1.length : Int)
 rotate_left
 ·rw [if_neg c3] at H
  have c3b0 : ((l0.length : Int) == (l1.length : Int)) = false := beq_eq_false_iff_ne.mpr c3
  have c3b1 : ((l0.length : Int) != (l1.length : Int)) = true := bne_iff_ne.mpr c3
  have c3b2 : (l0.length == l1.length) = false := by first | simpa using c3 | (simp at c3 ⊢; omega)
  obtain rfl := Option.some.inj H
  go_enter Try.func23, Try.ntmps23
  go_wp2
  go_ret
  exact ⟨by first | rfl | (simp [*, ah_, ai_] <;> rfl), bz HB.out⟩
 rw [if_pos c3] at H
 have c3b0 : ((l0.length : Int) == (l1.length : Int)) = true := beq_iff_eq.mpr c3
 have c3b1 : ((l0.length : Int) != (l1.length : Int)) = false := bne_eq_false_iff_eq.mpr c3
 have c3b2 : (l0.length == l1.length) = true := by first | simpa using c3 | (simp at c3 ⊢; omega)
 clear c3
 have H' := Aside0.mk H
 clear H
 go_enter Try.func23, Try.ntmps23
 go_wp2
 (try simp only [Act.put, lsa_, ls0_, ls1_])
 go_loopg [5] k (fun kq v5 w' => ∃ (x5_1 : Int), v5 = .int .i64 x5_1 ∧ Aside0 (aS_.l0 kq l0 l1 x5_1 = some r) ∧ Aside0 (kq ≤ k) ∧ Aside0 (Below w.heap.size w w'))
 case atStart => exact ⟨(0), (by first | rfl | (simp; done) | (simp [*]; done)), H', ⟨Nat.le_refl _⟩, ⟨bz HB.out⟩⟩
 case round =>
  clear H'
  obtain ⟨x5_1, rfl, HA, HK1, HB⟩ := hrel
  cases gk with
  | zero => exact absurd HA.out (by simp [aS_.l0])
  | succ k1 =>
   have H := HA.out
   clear HA
   simp only [aS_.l0] at H
   by_cases c4 : x5_1 < (l0.length : Int)
   rotate_left
   ·rw [if_neg c4] at H
    have c4b0 : decide (x5_1 < (l0.length : Int)) = false := decide_eq_false c4
    clear c4
    obtain rfl := Option.some.inj H
    go_wp2
    go_ret
    exact ⟨by first | rfl | (simp [*, ah_, ai_] <;> rfl), bz HB.out⟩
   rw [if_pos c4] at H
   have c4b0 : decide (x5_1 < (l0.length : Int)) = true := decide_eq_true c4
   clear c4
   by_cases c5 : 0 ≤ x5_1
   rotate_left
   ·rw [if_neg c5] at H
    exact absurd H (by simp)
   rw [if_pos c5] at H
   have c5b0 : decide (0 ≤ x5_1) = true := decide_eq_true c5
   clear c5
   by_cases c6 : x5_1 < (l1.length : Int)
   rotate_left
   ·rw [if_neg c6] at H
    exact absurd H (by simp)
   rw [if_pos c6] at H
   have c6b0 : decide (x5_1 < (l1.length : Int)) = true := decide_eq_true c6
   clear c6
   replace H := Option.bind_eq_some_iff.mp H
   obtain ⟨t103, A70, H⟩ := H
   (try dsimp only at H)
   have A7 := Aside0.mk A70
   clear A70
   have HC8 := Aside0.mk H
   clear H
   try go_wp2
   have n0_ := Aside0.mk (bD_ HB.out)
   clear HB
   have HB := n0_
   clear n0_
   have p101 : 0 ≤ (x5_1 : Int) := of_decide_eq_true (by assumption)
   have q101 : x5_1 < (l0.length : Int) := of_decide_eq_true (by assumption)
   obtain ⟨ad101, e101, hx101_0, hx101_1, hx101_2⟩ := at_T56 HR0.out x5_1 p101 q101
   have hw101_2 := hx101_2
   have hw101_1 := hx101_1
   have hw101_0 := hx101_0
   cases e101
   replace hx101_0 := bu_ HB.out hx101_0
   replace hx101_1 := bu_ HB.out hx101_1
   replace hx101_2 := bu_ HB.out hx101_2
   replace p101 := eq_true p101
   replace q101 := eq_true q101
   have p102 : 0 ≤ (x5_1 : Int) := of_decide_eq_true (by assumption)
   have q102 : x5_1 < (l1.length : Int) := of_decide_eq_true (by assumption)
   obtain ⟨ad102, e102, hx102_0, hx102_1, hx102_2⟩ := at_T56 HR1.out x5_1 p102 q102
   have hw102_2 := hx102_2
   have hw102_1 := hx102_1
   have hw102_0 := hx102_0
   cases e102
   replace hx102_0 := bu_ HB.out hx102_0
   replace hx102_1 := bu_ HB.out hx102_1
   replace hx102_2 := bu_ HB.out hx102_2
   replace p102 := eq_true p102
   replace q102 := eq_true q102
   refine cl_ (n := 10) (S := fun w' => w'.cell? (ad101.add ((x5_1).toNat * 3)) = some (.string ((aR_ l0 x5_1).f0)) ∧ w'.cell? ⟨(ad101.add ((x5_1).toNat * 3)).block, (ad101.add ((x5_1).toNat * 3)).off + 1, none⟩ = some (.int .i64 ((aR_ l0 x5_1).f1)) ∧ w'.cell? ⟨(ad101.add ((x5_1).toNat * 3)).block, (ad101.add ((x5_1).toNat * 3)).off + 2, none⟩ = some (.int .i64 ((aR_ l0 x5_1).f2)) ∧ w'.cell? (ad102.add ((x5_1).toNat * 3)) = some (.string ((aR_ l1 x5_1).f0)) ∧ w'.cell? ⟨(ad102.add ((x5_1).toNat * 3)).block, (ad102.add ((x5_1).toNat * 3)).off + 1, none⟩ = some (.int .i64 ((aR_ l1 x5_1).f1)) ∧ w'.cell? ⟨(ad102.add ((x5_1).toNat * 3)).block, (ad102.add ((x5_1).toNat * 3)).off + 2, none⟩ = some (.int .i64 ((aR_ l1 x5_1).f2))) (ds := []) #[f_,f_,f_,f_,f_,f_,f_,f_,f_,f_] (by kernel_rfl) rfl rfl ⟨(bv_ HB.out hw101_0), (bv_ HB.out hw101_1), (bv_ HB.out hw101_2), (bv_ HB.out hw102_0), (bv_ HB.out hw102_1), (bv_ HB.out hw102_2)⟩ (fun hHeld => ?_); refine bo_ aS_.tab6 aS_.bits6 (fun HT_ HW_ => ?_)
   generalize wr.drew = w9 at HB hx101_0 hx101_1 hx101_2 hx102_0 hx102_1 hx102_2 hHeld ⊢
   refine pu 0 17 #[t_,f_,f_,f_,f_,f_,f_,f_,f_,f_] HT_ ?_
   refine pu 1 18 #[t_,t_,f_,f_,f_,f_,f_,f_,f_,f_] HT_ ?_
   refine pu 2 19 #[t_,t_,t_,f_,f_,f_,f_,f_,f_,f_] HT_ ?_
   refine pu 4 21 #[t_,t_,t_,f_,t_,f_,f_,f_,f_,f_] HT_ ?_
   refine pu 5 22 #[t_,t_,t_,f_,t_,t_,f_,f_,f_,f_] HT_ ?_
   refine pu 6 23 #[t_,t_,t_,f_,t_,t_,t_,f_,f_,f_] HT_ ?_
   refine tk 3 20 #[t_,t_,t_,t_,t_,t_,t_,f_,f_,f_] HT_ HW_ hHeld ?_ (hv := by rintro w' ⟨s0, s1, s2, s3, s4, s5⟩; go_simp; with_reducible rfl)
   refine tk 7 24 #[t_,t_,t_,t_,t_,t_,t_,t_,f_,f_] HT_ HW_ hHeld ?_ (hv := by rintro w' ⟨s0, s1, s2, s3, s4, s5⟩; go_simp; with_reducible rfl)
   refine one_ (i := 8) (N := some 25) #[t_,t_,t_,t_,t_,t_,t_,t_,t_,f_] rfl rfl (bh_ HT_.out (by kernel_rfl)) (by decide) (fun K hK => ?_)
   (first | refine goes_ Try.func43 (by kernel_rfl) rfl #[.agg #[.string ((aR_ l0 x5_1).f0), .int .i64 ((aR_ l0 x5_1).f1), .int .i64 ((aR_ l0 x5_1).f2)], .agg #[.string ((aR_ l1 x5_1).f0), .int .i64 ((aR_ l1 x5_1).f1), .int .i64 ((aR_ l1 x5_1).f2)]] (by rfl) rfl rfl (by first | rfl | (simp only [lma_, lmc_, lmn_]; first | done | rfl)) ?_ | refine RPW.by_ Try.func43 (by kernel_rfl) rfl #[.agg #[.string ((aR_ l0 x5_1).f0), .int .i64 ((aR_ l0 x5_1).f1), .int .i64 ((aR_ l0 x5_1).f2)], .agg #[.string ((aR_ l1 x5_1).f0), .int .i64 ((aR_ l1 x5_1).f1), .int .i64 ((aR_ l1 x5_1).f2)]] (by rfl) rfl rfl rfl (by first | rfl | (simp only [lma_, lmc_, lmn_]; first | done | rfl)) ?_ | refine RPW.bz_ Try.func43 (by kernel_rfl) rfl #[.agg #[.string ((aR_ l0 x5_1).f0), .int .i64 ((aR_ l0 x5_1).f1), .int .i64 ((aR_ l0 x5_1).f2)], .agg #[.string ((aR_ l1 x5_1).f0), .int .i64 ((aR_ l1 x5_1).f1), .int .i64 ((aR_ l1 x5_1).f2)]] (by rfl) rfl rfl rfl (by first | rfl | (simp only [lma_, lmc_, lmn_]; first | done | rfl)) ?_)
   with_reducible refine (cS_.calls ((aR_ l0 x5_1).f0) ((aR_ l0 x5_1).f1) ((aR_ l0 x5_1).f2) ((aR_ l1 x5_1).f0) ((aR_ l1 x5_1).f1) ((aR_ l1 x5_1).f2) t103 _ A7.out).mono ?_
   rintro e w10 ⟨rfl, hb⟩
   refine ⟨_, rfl, ?_⟩
   have n0_ := Aside0.mk (ad_ (bz HB.out) hb)
   clear HB
   have HB := n0_
   clear n0_
   (try clear hb)
   refine hK.out _ _ ⟨(bv_ HB.out hw101_0), (bv_ HB.out hw101_1), (bv_ HB.out hw101_2), (bv_ HB.out hw102_0), (bv_ HB.out hw102_1), (bv_ HB.out hw102_2)⟩ (fun hHeld => ?_)
   clear hK K
   refine norm_ (a' := ?_) ?_ ?_
   rotate_left
   ·show Act.put _ (some 25) _ = _
    simp only [Act.put, lsa_, ls0_, ls1_, i64_w, i32_w]
    rfl
   refine pu 9 26 #[t_,t_,t_,t_,t_,t_,t_,t_,t_,t_] HT_ ?_
   refine done_ (bS_ HT_.out (by kernel_rfl)) ?_
   go_upto_if 26 with (fail)
   have H := HC8.out
   clear HC8
   by_cases c11 : t103 = true
   rotate_left
   ·replace c11 := Bool.eq_false_iff.mpr c11
    subst c11
    have H1 : (some false) = some r := by rw [if_neg (show ¬ (false = true) by decide)] at H; exact H
    clear H
    have H := H1
    clear H1
    obtain rfl := Option.some.inj H
    go_wp2
    go_ret
    exact ⟨by first | rfl | (simp [*, ah_, ai_] <;> rfl), bz HB.out⟩
   subst c11
   have H1 : (aS_.l0 k1 l0 l1 (wrap64 (x5_1 + 1))) = some r := by rw [if_pos rfl] at H; exact H
   clear H
   have H := H1
   clear H1
   have H' := Aside0.mk H
   clear H
   go_wp2
   go_roundg k1
   case measure => have := HK1.out; omega
   case rel => exact ⟨(wrap64 (x5_1 + 1)), (by first | rfl | (simp; done) | (simp [*]; done)), H', ⟨by have := HK1.out; omega⟩, ⟨bz HB.out⟩⟩
def cA_.f (k : Nat) (a0_0 : Int) (a0_1 : Int) (l0_2 : List (S81)) (l0_3 : List (S85)) (l0_4 : List (S56)) (a1_0 : Int) (a1_1 : Int) (l1_2 : List (S81)) (l1_3 : List (S85)) (l1_4 : List (S56)) : Option (Bool) := (cw_.f k a0_0 a0_1 l0_2 l0_3 a1_0 a1_1 l1_2 l1_3).bind fun t103 => (if t103 = true then ((aS_.f k l0_4 l1_4).bind fun t104 => (if t104 = true then (some true) else (some false))) else (some false))
set_option maxHeartbeats 8000000 in
set_option maxRecDepth 100000 in
theorem cA_.calls (k : Nat) (a0_0 : Int) (a0_1 : Int) (A0_2 : Option Addr) (c0_2 : Nat) (l0_2 : List (S81)) (A0_3 : Option Addr) (c0_3 : Nat) (l0_3 : List (S85)) (A0_4 : Option Addr) (c0_4 : Nat) (l0_4 : List (S56)) (a1_0 : Int) (a1_1 : Int) (A1_2 : Option Addr) (c1_2 : Nat) (l1_2 : List (S81)) (A1_3 : Option Addr) (c1_3 : Nat) (l1_3 : List (S85)) (A1_4 : Option Addr) (c1_4 : Nat) (l1_4 : List (S56)) (r : Bool) (w : World) (hr0_2 : Kd.C k81 w A0_2 l0_2.length l0_2) (hc0_2 : l0_2.length ≤ c0_2) (hr0_3 : Kd.C k85 w A0_3 l0_3.length l0_3) (hc0_3 : l0_3.length ≤ c0_3) (hr0_4 : Kd.C k56 w A0_4 l0_4.length l0_4) (hc0_4 : l0_4.length ≤ c0_4) (hr1_2 : Kd.C k81 w A1_2 l1_2.length l1_2) (hc1_2 : l1_2.length ≤ c1_2) (hr1_3 : Kd.C k85 w A1_3 l1_3.length l1_3) (hc1_3 : l1_3.length ≤ c1_3) (hr1_4 : Kd.C k56 w A1_4 l1_4.length l1_4) (hc1_4 : l1_4.length ≤ c1_4) (h : cA_.f k a0_0 a0_1 l0_2 l0_3 l0_4 a1_0 a1_1 l1_2 l1_3 l1_4 = some r) :
  Calls Try.prog 9 #[.agg #[.int .i64 a0_0, .int .i64 a0_1, .slice A0_2 l0_2.length c0_2, .slice A0_3 l0_3.length c0_3, .slice A0_4 l0_4.length c0_4], .agg #[.int .i64 a1_0, .int .i64 a1_1, .slice A1_2 l1_2.length c1_2, .slice A1_3 l1_3.length c1_3, .slice A1_4 l1_4.length c1_4]] w fun e w' => e = .returned (.bool r) ∧ Below w.heap.size w w' := by
 have hu40 := Try.underlying40
 have hu37 := Try.underlying37
 have HR0_2 := Aside0.mk hr0_2
 have HC0_2 := Aside0.mk hc0_2
 clear hr0_2 hc0_2
 have HR0_3 := Aside0.mk hr0_3
 have HC0_3 := Aside0.mk hc0_3
 clear hr0_3 hc0_3
 have HR0_4 := Aside0.mk hr0_4
 have HC0_4 := Aside0.mk hc0_4
 clear hr0_4 hc0_4
 have HR1_2 := Aside0.mk hr1_2
 have HC1_2 := Aside0.mk hc1_2
 clear hr1_2 hc1_2
 have HR1_3 := Aside0.mk hr1_3
 have HC1_3 := Aside0.mk hc1_3
 clear hr1_3 hc1_3
 have HR1_4 := Aside0.mk hr1_4
 have HC1_4 := Aside0.mk hc1_4
 clear hr1_4 hc1_4
 have HB := Aside0.mk (Below.refl w.heap.size w)
 have H : ((cw_.f k a0_0 a0_1 l0_2 l0_3 a1_0 a1_1 l1_2 l1_3).bind fun t103 => (if t103 = true then ((aS_.f k l0_4 l1_4).bind fun t104 => (if t104 = true then (some true) else (some false))) else (some false))) = some r := h
 clear h
 replace H := Option.bind_eq_some_iff.mp H
 obtain ⟨t103, A30, H⟩ := H
 (try dsimp only at H)
 have A3 := Aside0.mk A30
 clear A30
 have HC4 := Aside0.mk H
 clear H
 go_enter Try.func9, Try.ntmps9
 go_upto_if 10 with (first | ((with_reducible refine al_ (N := 2) rfl ?_); refine ak_ ?hg (N := 2) ?hd (cs := #[.int .i64 a0_0, .int .i64 a0_1, .slice A0_2 l0_2.length c0_2, .slice A0_3 l0_3.length c0_3, .slice A0_4 l0_4.length c0_4]) (t := 40) ?hr ?_; (case hd => rfl); (case hg => rfl); (case hr => (go_simp; try rfl)); intro gb101 hg w5 hbox hb; have BK101 := Aside0.mk (hbox); have GW101 := Aside0.mk ((by rw [hg]; exact (ae_ (bz HB.out)) : w.heap.size ≤ gb101)); have GE101 := GW101; replace HB := Aside0.mk (ad_ (bz HB.out) hb); clear hb hbox hg) | ((with_reducible refine al_ (N := 3) rfl ?_); refine ak_ ?hg (N := 3) ?hd (cs := #[.int .i64 a1_0, .int .i64 a1_1, .slice A1_2 l1_2.length c1_2, .slice A1_3 l1_3.length c1_3, .slice A1_4 l1_4.length c1_4]) (t := 40) ?hr ?_; (case hd => rfl); (case hg => rfl); (case hr => (go_simp; try rfl)); intro gb102 hg w6 hbox hb; have BK102 := Aside0.mk (hbox); have GW102 := Aside0.mk ((by rw [hg]; exact (ae_ (bq)) : w.heap.size ≤ gb102)); have GE102 := GW102; replace HB := Aside0.mk (ad_ (bq) hb); have NB101_102 := Aside0.mk ((by rw [hg]; exact Nat.ne_of_lt (aj_ (kz BK101.out)) : gb101 ≠ gb102)); have NB102_101 := Aside0.mk ((by rw [hg]; exact Nat.ne_of_gt (aj_ (kz BK101.out)) : gb102 ≠ gb101)); replace BK101 := Aside0.mk (aa_ (kz BK101.out) hb); clear hb hbox hg; have hnb7 := NB101_102.out; have hnc7 := NB102_101.out; obtain ⟨hcz8_0, hcz8_1, hcz8_2, hcz8_3, hcz8_4⟩ := cz5_ BK101.out; obtain ⟨hfz8_0, hfz8_1, hfz8_2, hfz8_3, hfz8_4⟩ := fz5_ BK101.out; obtain ⟨hcz9_0, hcz9_1, hcz9_2, hcz9_3, hcz9_4⟩ := cz5_ BK102.out; obtain ⟨hfz9_0, hfz9_1, hfz9_2, hfz9_3, hfz9_4⟩ := fz5_ BK102.out) | ((with_reducible refine an_ (f := 22) rfl ?_); refine aU_ (some 9) rfl rfl Try.func22 (by kernel_rfl) rfl #[.agg #[.int .i64 a0_0, .int .i64 a0_1, .slice A0_2 l0_2.length c0_2, .slice A0_3 l0_3.length c0_3], .agg #[.int .i64 a1_0, .int .i64 a1_1, .slice A1_2 l1_2.length c1_2, .slice A1_3 l1_3.length c1_3]] rfl (by first | rfl | (simp only [lma_, lmc_, lmn_]; first | done | rfl)) ?_; (with_reducible refine (cw_.calls k a0_0 a0_1 _ _ l0_2 _ _ l0_3 a1_0 a1_1 _ _ l1_2 _ _ l1_3 t103 _ ?side1 ?side2 ?side3 ?side4 ?side5 ?side6 ?side7 ?side8 A3.out).mono ?_); (case side1 => exact cz (Kd.aF_ HR0_2.out HB.out)); (case side2 => exact HC0_2.out); (case side3 => exact cz (Kd.aF_ HR0_3.out HB.out)); (case side4 => exact HC0_3.out); (case side5 => exact cz (Kd.aF_ HR1_2.out HB.out)); (case side6 => exact HC1_2.out); (case side7 => exact cz (Kd.aF_ HR1_3.out HB.out)); (case side8 => exact HC1_3.out); rintro e w10 ⟨rfl, hb⟩; refine ⟨_, rfl, ?_⟩; replace BK101 := Aside0.mk (aa_ (kz BK101.out) hb); replace BK102 := Aside0.mk (aa_ (kz BK102.out) hb); replace HB := Aside0.mk (ad_ (bq) hb); (try clear hb)))
 (try simp only [Act.put, lsa_, ls0_, ls1_])
 have H := HC4.out
 clear HC4
 by_cases c11 : t103 = true
 rotate_left
 ·replace c11 := Bool.eq_false_iff.mpr c11
  subst c11
  have H1 : (some false) = some r := by rw [if_neg (show ¬ (false = true) by decide)] at H; exact H
  clear H
  have H := H1
  clear H1
  obtain rfl := Option.some.inj H
  go_wp2
  go_ret
  exact ⟨by first | rfl | (simp [*, ah_, ai_] <;> rfl), bq⟩
 subst c11
 have H1 : ((aS_.f k l0_4 l1_4).bind fun t104 => (if t104 = true then (some true) else (some false))) = some r := by rw [if_pos rfl] at H; exact H
 clear H
 have H := H1
 clear H1
 replace H := Option.bind_eq_some_iff.mp H
 obtain ⟨t104, A120, H⟩ := H
 (try dsimp only at H)
 have A12 := Aside0.mk A120
 clear A120
 have HC13 := Aside0.mk H
 clear H
 have hnb14 := NB101_102.out
 have hnc14 := NB102_101.out
 obtain ⟨hcz15_0, hcz15_1, hcz15_2, hcz15_3, hcz15_4⟩ := cz5_ BK101.out
 obtain ⟨hfz15_0, hfz15_1, hfz15_2, hfz15_3, hfz15_4⟩ := fz5_ BK101.out
 obtain ⟨hcz16_0, hcz16_1, hcz16_2, hcz16_3, hcz16_4⟩ := cz5_ BK102.out
 obtain ⟨hfz16_0, hfz16_1, hfz16_2, hfz16_3, hfz16_4⟩ := fz5_ BK102.out
 go_upto_if 16 with (first | ((with_reducible refine an_ (f := 23) rfl ?_); refine aU_ (some 15) rfl rfl Try.func23 (by kernel_rfl) rfl #[.slice A0_4 l0_4.length c0_4, .slice A1_4 l1_4.length c1_4] rfl (by first | rfl | (simp only [lma_, lmc_, lmn_]; first | done | rfl)) ?_; (with_reducible refine (aS_.calls k _ _ l0_4 _ _ l1_4 t104 _ ?side1 ?side2 ?side3 ?side4 A12.out).mono ?_); (case side1 => repeat (first | exact (Kd.aF_ HR0_4.out (bq)) | (with_reducible first | refine Kd.cL_ ?_ _ | refine Kd.cJ_ ?_ _ | refine Kd.dx_ ?_))); (case side2 => exact HC0_4.out); (case side3 => repeat (first | exact (Kd.aF_ HR1_4.out (bq)) | (with_reducible first | refine Kd.cL_ ?_ _ | refine Kd.cJ_ ?_ _ | refine Kd.dx_ ?_))); (case side4 => exact HC1_4.out); rintro e w17 ⟨rfl, hb⟩; refine ⟨_, rfl, ?_⟩; replace BK101 := Aside0.mk (aa_ (kz BK101.out) hb); replace BK102 := Aside0.mk (aa_ (kz BK102.out) hb); replace HB := Aside0.mk (ad_ (bq) hb); (try clear hb)))
 (try simp only [Act.put, lsa_, ls0_, ls1_])
 have H := HC13.out
 clear HC13
 by_cases c18 : t104 = true
 rotate_left
 ·replace c18 := Bool.eq_false_iff.mpr c18
  subst c18
  have H1 : (some false) = some r := by rw [if_neg (show ¬ (false = true) by decide)] at H; exact H
  clear H
  have H := H1
  clear H1
  obtain rfl := Option.some.inj H
  go_wp2
  go_ret
  exact ⟨by first | rfl | (simp [*, ah_, ai_] <;> rfl), bq⟩
 subst c18
 have H1 : (some true) = some r := by rw [if_pos rfl] at H; exact H
 clear H
 have H := H1
 clear H1
 obtain rfl := Option.some.inj H
 go_wp2
 go_ret
 exact ⟨by first | rfl | (simp [*, ah_, ai_] <;> rfl), bq⟩
def ap_.j0 : Nat → Bool → Int → Int → List (S96) → List (S90) → List (S66) → Int → Int → List (S81) → List (S85) → List (S56) → Option (Bool)
 | 0, _, _, _, _, _, _, _, _, _, _, _ => none
 | k + 1, x40, x102000, x102001, x102002, x102003, x102004, x134000, x134001, x134002, x134003, x134004 => if x40 = true then (some false) else ((bJ_.f k x102000 x102001 x102002 x102003 x102004).bind fun bt141 => ((cA_.f k x134000 x134001 x134002 x134003 x134004 bt141.1 bt141.2.1 bt141.2.2.1 bt141.2.2.2.1 bt141.2.2.2.2).bind fun t152 => (if t152 = true then (some true) else (some false))))
def ap_.f (k : Nat) (a0_0 : Int) (a0_1 : Int) (l0_2 : List (S96)) (l0_3 : List (S90)) (l0_4 : List (S66)) (a1_0 : Int) (a1_1 : Int) (a1_2 : Int) (a1_3 : Int) (a1_4 : Int) : Option (Bool) := (ct_.f k a0_0 a0_1 l0_2 l0_3 l0_4 1048576).bind fun t103 => (if t103 < 0 then (some true) else ((bJ_.f k a0_0 a0_1 l0_2 l0_3 l0_4).bind fun bt104 => ((ck_.f a1_0 a1_1 a1_2 a1_3 a1_4).bind fun bt115 => ((cn_.f k bt104.1 bt104.2.1 bt104.2.2.1 bt104.2.2.2.1 bt104.2.2.2.2 bt115.1 bt115.2.1 bt115.2.2.1 bt115.2.2.2.1 bt115.2.2.2.2).bind fun bt120 => ((bJ_.f k a0_0 a0_1 l0_2 l0_3 l0_4).bind fun bt122 => ((ck_.f a1_0 a1_1 a1_2 a1_3 a1_4).bind fun bt134 => ((az_.f k bt122.1 bt122.2.1 bt122.2.2.1 bt122.2.2.2.1 bt122.2.2.2.2 bt134.1 bt134.2.1 bt134.2.2.1 bt134.2.2.2.1 bt134.2.2.2.2).bind fun bt139 => (if bt139.1 = bt120.1 then (ap_.j0 k (bt139.2 != bt120.2) a0_0 a0_1 l0_2 l0_3 l0_4 bt122.1 bt122.2.1 bt122.2.2.1 bt122.2.2.2.1 bt122.2.2.2.2) else (ap_.j0 k true a0_0 a0_1 l0_2 l0_3 l0_4 bt122.1 bt122.2.1 bt122.2.2.1 bt122.2.2.2.1 bt122.2.2.2.2)))))))))
def ap_.T5 : Bool × List (List Nat × List Nat) := (true, [([], []), ([0], [0]), ([], []), ([2, 1], [2]), ([1, 3, 3], [1, 3]), ([4], [4]), ([5], [5]), ([5], [5]), ([6, 4, 0, 1, 2, 3, 4, 5, 6], [6]), ([7, 8, 0, 1, 2, 3, 4, 5, 6, 7, 8], [7])])
def ap_.B5 : List Nat := [0, 1, 0, 7, 15, 31, 63, 63, 127, 511]
theorem ap_.tab5 : rtab .any (opsOf Try.f3 5) = ap_.T5 := by kernel_rfl
theorem ap_.bits5 : cj_ ap_.T5.2 ap_.B5 = true := by kernel_rfl
def ap_.T7 : Bool × List (List Nat × List Nat) := (true, [([], []), ([], []), ([1], [1]), ([0, 2, 2], [0, 2]), ([3], [3]), ([4], [4]), ([4], [4]), ([5, 3, 0, 1, 2, 3, 4, 5], [5]), ([6, 7, 0, 1, 2, 3, 4, 5, 6, 7], [6])])
def ap_.B7 : List Nat := [0, 0, 2, 7, 15, 31, 31, 63, 255]
theorem ap_.tab7 : rtab .any (opsOf Try.f3 7) = ap_.T7 := by kernel_rfl
theorem ap_.bits7 : cj_ ap_.T7.2 ap_.B7 = true := by kernel_rfl
set_option maxHeartbeats 8000000 in
set_option maxRecDepth 100000 in
theorem ap_.calls (k : Nat) (a0_0 : Int) (a0_1 : Int) (A0_2 : Option Addr) (c0_2 : Nat) (l0_2 : List (S96)) (A0_3 : Option Addr) (c0_3 : Nat) (l0_3 : List (S90)) (A0_4 : Option Addr) (c0_4 : Nat) (l0_4 : List (S66)) (a1_0 : Int) (a1_1 : Int) (a1_2 : Int) (a1_3 : Int) (a1_4 : Int) (r : Bool) (w : World) (hr0_2 : Kd.C k96 w A0_2 l0_2.length l0_2) (hc0_2 : l0_2.length ≤ c0_2) (hr0_3 : Kd.C k90 w A0_3 l0_3.length l0_3) (hc0_3 : l0_3.length ≤ c0_3) (hr0_4 : Kd.C k66 w A0_4 l0_4.length l0_4) (hc0_4 : l0_4.length ≤ c0_4) (h : ap_.f k a0_0 a0_1 l0_2 l0_3 l0_4 a1_0 a1_1 a1_2 a1_3 a1_4 = some r) :
  Calls Try.prog 3 #[.agg #[.int .i64 a0_0, .int .i64 a0_1, .slice A0_2 l0_2.length c0_2, .slice A0_3 l0_3.length c0_3, .slice A0_4 l0_4.length c0_4], .agg #[.int .i64 a1_0, .int .i64 a1_1, .int .i64 a1_2, .int .i64 a1_3, .int .i64 a1_4]] w fun e w' => e = .returned (.bool r) ∧ Below w.heap.size w w' := by
 have hu28 := Try.underlying28
 have hu30 := Try.underlying30
 have hu40 := Try.underlying40
 have HR0_2 := Aside0.mk hr0_2
 have HC0_2 := Aside0.mk hc0_2
 clear hr0_2 hc0_2
 have HR0_3 := Aside0.mk hr0_3
 have HC0_3 := Aside0.mk hc0_3
 clear hr0_3 hc0_3
 have HR0_4 := Aside0.mk hr0_4
 have HC0_4 := Aside0.mk hc0_4
 clear hr0_4 hc0_4
 have HB := Aside0.mk (Below.refl w.heap.size w)
 have H : ((ct_.f k a0_0 a0_1 l0_2 l0_3 l0_4 1048576).bind fun t103 => (if t103 < 0 then (some true) else ((bJ_.f k a0_0 a0_1 l0_2 l0_3 l0_4).bind fun bt104 => ((ck_.f a1_0 a1_1 a1_2 a1_3 a1_4).bind fun bt115 => ((cn_.f k bt104.1 bt104.2.1 bt104.2.2.1 bt104.2.2.2.1 bt104.2.2.2.2 bt115.1 bt115.2.1 bt115.2.2.1 bt115.2.2.2.1 bt115.2.2.2.2).bind fun bt120 => ((bJ_.f k a0_0 a0_1 l0_2 l0_3 l0_4).bind fun bt122 => ((ck_.f a1_0 a1_1 a1_2 a1_3 a1_4).bind fun bt134 => ((az_.f k bt122.1 bt122.2.1 bt122.2.2.1 bt122.2.2.2.1 bt122.2.2.2.2 bt134.1 bt134.2.1 bt134.2.2.1 bt134.2.2.2.1 bt134.2.2.2.2).bind fun bt139 => (if bt139.1 = bt120.1 then (ap_.j0 k (bt139.2 != bt120.2) a0_0 a0_1 l0_2 l0_3 l0_4 bt122.1 bt122.2.1 bt122.2.2.1 bt122.2.2.2.1 bt122.2.2.2.2) else (ap_.j0 k true a0_0 a0_1 l0_2 l0_3 l0_4 bt122.1 bt122.2.1 bt122.2.2.1 bt122.2.2.2.1 bt122.2.2.2.2)))))))))) = some r := h
 clear h
 replace H := Option.bind_eq_some_iff.mp H
 obtain ⟨t103, A30, H⟩ := H
 (try dsimp only at H)
 have A3 := Aside0.mk A30
 clear A30
 have HC4 := Aside0.mk H
 clear H
 go_enter Try.func3, Try.ntmps3
 go_upto_if 15 with (first | ((with_reducible refine al_ (N := 2) rfl ?_); refine ak_ ?hg (N := 2) ?hd (cs := #[.int .i64 a0_0, .int .i64 a0_1, .slice A0_2 l0_2.length c0_2, .slice A0_3 l0_3.length c0_3, .slice A0_4 l0_4.length c0_4]) (t := 28) ?hr ?_; (case hd => rfl); (case hg => rfl); (case hr => (go_simp; try rfl)); intro gb101 hg w5 hbox hb; have BK101 := Aside0.mk (hbox); have GW101 := Aside0.mk ((by rw [hg]; exact (ae_ (bz HB.out)) : w.heap.size ≤ gb101)); have GE101 := GW101; replace HB := Aside0.mk (ad_ (bz HB.out) hb); clear hb hbox hg) | ((with_reducible refine al_ (N := 3) rfl ?_); refine ak_ ?hg (N := 3) ?hd (cs := #[.int .i64 a1_0, .int .i64 a1_1, .int .i64 a1_2, .int .i64 a1_3, .int .i64 a1_4]) (t := 30) ?hr ?_; (case hd => rfl); (case hg => rfl); (case hr => (go_simp; try rfl)); intro gb102 hg w6 hbox hb; have BK102 := Aside0.mk (hbox); have GW102 := Aside0.mk ((by rw [hg]; exact (ae_ (bq)) : w.heap.size ≤ gb102)); have GE102 := GW102; replace HB := Aside0.mk (ad_ (bq) hb); have NB101_102 := Aside0.mk ((by rw [hg]; exact Nat.ne_of_lt (aj_ (kz BK101.out)) : gb101 ≠ gb102)); have NB102_101 := Aside0.mk ((by rw [hg]; exact Nat.ne_of_gt (aj_ (kz BK101.out)) : gb102 ≠ gb101)); replace BK101 := Aside0.mk (aa_ (kz BK101.out) hb); clear hb hbox hg; have hnb7 := NB101_102.out; have hnc7 := NB102_101.out; obtain ⟨hcz8_0, hcz8_1, hcz8_2, hcz8_3, hcz8_4⟩ := cz5_ BK101.out; obtain ⟨hfz8_0, hfz8_1, hfz8_2, hfz8_3, hfz8_4⟩ := fz5_ BK101.out) | ((with_reducible refine an_ (f := 4) rfl ?_); refine aU_ (some 13) rfl rfl Try.func4 (by kernel_rfl) rfl #[.agg #[.int .i64 a0_0, .int .i64 a0_1, .slice A0_2 l0_2.length c0_2, .slice A0_3 l0_3.length c0_3, .slice A0_4 l0_4.length c0_4], .int .i64 1048576] rfl (by first | rfl | (simp only [lma_, lmc_, lmn_]; first | done | rfl)) ?_; (with_reducible refine (ct_.calls k a0_0 a0_1 _ _ l0_2 _ _ l0_3 _ _ l0_4 1048576 t103 _ ?side1 ?side2 ?side3 ?side4 ?side5 ?side6 A3.out).mono ?_); (case side1 => exact cz (Kd.aF_ HR0_2.out HB.out)); (case side2 => exact HC0_2.out); (case side3 => exact cz (Kd.aF_ HR0_3.out HB.out)); (case side4 => exact HC0_3.out); (case side5 => exact cz (Kd.aF_ HR0_4.out HB.out)); (case side6 => exact HC0_4.out); rintro e w9 ⟨rfl, hb⟩; refine ⟨_, rfl, ?_⟩; replace BK101 := Aside0.mk (aa_ (kz BK101.out) hb); replace BK102 := Aside0.mk (aa_ (kz BK102.out) hb); replace HB := Aside0.mk (ad_ (bq) hb); (try clear hb)))
 (try simp only [Act.put, lsa_, ls0_, ls1_])
 have H := HC4.out
 clear HC4
 by_cases c10 : t103 < 0
 rotate_left
 ·rw [if_neg c10] at H
  have c10b0 : decide (t103 < 0) = false := decide_eq_false c10
  clear c10
  (first | rw [c10b0] | (simp only [i64_w, i32_w]; rw [c10b0]) | (simp only [c10b1, Bool.not_true, Bool.not_false]) | (simp only [c10b0, Bool.not_true, Bool.not_false]) | skip)
  replace H := Option.bind_eq_some_iff.mp H
  obtain ⟨⟨t104, t105, t106, t109, t112⟩, A110, H⟩ := H
  (try dsimp only at H)
  have A11 := Aside0.mk A110
  clear A110
  replace H := Option.bind_eq_some_iff.mp H
  obtain ⟨⟨t115, t116, t117, t118, t119⟩, A120, H⟩ := H
  (try dsimp only at H)
  have A12 := Aside0.mk A120
  clear A120
  replace H := Option.bind_eq_some_iff.mp H
  obtain ⟨⟨t120, t121⟩, A130, H⟩ := H
  (try dsimp only at H)
  have A13 := Aside0.mk A130
  clear A130
  replace H := Option.bind_eq_some_iff.mp H
  obtain ⟨⟨t122, t123, t124, t127, t130⟩, A140, H⟩ := H
  (try dsimp only at H)
  have A14 := Aside0.mk A140
  clear A140
  replace H := Option.bind_eq_some_iff.mp H
  obtain ⟨⟨t134, t135, t136, t137, t138⟩, A150, H⟩ := H
  (try dsimp only at H)
  have A15 := Aside0.mk A150
  clear A150
  replace H := Option.bind_eq_some_iff.mp H
  obtain ⟨⟨t139, t140⟩, A160, H⟩ := H
  (try dsimp only at H)
  have A16 := Aside0.mk A160
  clear A160
  have HC17 := Aside0.mk H
  clear H
  try go_wp2
  (try (rw [cR_ w9]; generalize hq_ : World.drewN w9 _ = w9; have n0_ : Aside0 (w9.heap[gb101]? = some (.cells #[.int .i64 a0_0, .int .i64 a0_1, .slice A0_2 l0_2.length c0_2, .slice A0_3 l0_3.length c0_3, .slice A0_4 l0_4.length c0_4] 28 (0, 0))) := ⟨by rw [← hq_]; exact (kz BK101.out)⟩; have n1_ : Aside0 (w9.heap[gb102]? = some (.cells #[.int .i64 a1_0, .int .i64 a1_1, .int .i64 a1_2, .int .i64 a1_3, .int .i64 a1_4] 30 (0, 0))) := ⟨by rw [← hq_]; exact (kz BK102.out)⟩; have n2_ : Aside0 (Below w.heap.size w w9) := ⟨by rw [← hq_]; exact (bq)⟩; clear BK101 BK102 HB hq_; have BK101 := n0_; have BK102 := n1_; have HB := n2_; clear n0_ n1_ n2_))
  have n0_ := Aside0.mk (av_ BK101.out)
  have n1_ := Aside0.mk (av_ BK102.out)
  have n2_ := Aside0.mk (bD_ HB.out)
  clear BK101
  clear BK102
  clear HB
  have BK101 := n0_
  have BK102 := n1_
  have HB := n2_
  clear n0_ n1_ n2_
  refine cl_ (n := 10) (S := fun w' => w'.cell? ⟨gb101, 0, none⟩ = some (.int .i64 a0_0) ∧ w'.cell? ⟨gb101, 1, none⟩ = some (.int .i64 a0_1) ∧ w'.cell? ⟨gb101, 2, none⟩ = some (.slice A0_2 l0_2.length c0_2) ∧ w'.cell? ⟨gb101, 3, none⟩ = some (.slice A0_3 l0_3.length c0_3) ∧ w'.cell? ⟨gb101, 4, none⟩ = some (.slice A0_4 l0_4.length c0_4) ∧ w'.cell? ⟨gb102, 0, none⟩ = some (.int .i64 a1_0) ∧ w'.cell? ⟨gb102, 1, none⟩ = some (.int .i64 a1_1) ∧ w'.cell? ⟨gb102, 2, none⟩ = some (.int .i64 a1_2) ∧ w'.cell? ⟨gb102, 3, none⟩ = some (.int .i64 a1_3) ∧ w'.cell? ⟨gb102, 4, none⟩ = some (.int .i64 a1_4)) (ds := []) #[f_,f_,f_,f_,f_,f_,f_,f_,f_,f_] (by kernel_rfl) rfl rfl ⟨(ac_ BK101.out 0).trans rfl, (ac_ BK101.out 1).trans rfl, (ac_ BK101.out 2).trans rfl, (ac_ BK101.out 3).trans rfl, (ac_ BK101.out 4).trans rfl, (ac_ BK102.out 0).trans rfl, (ac_ BK102.out 1).trans rfl, (ac_ BK102.out 2).trans rfl, (ac_ BK102.out 3).trans rfl, (ac_ BK102.out 4).trans rfl⟩ (fun hHeld => ?_); refine bo_ ap_.tab5 ap_.bits5 (fun HT_ HW_ => ?_)
  generalize w9.drew = w18 at BK101 BK102 HB hHeld ⊢
  refine tk 0 17 #[t_,f_,f_,f_,f_,f_,f_,f_,f_,f_] HT_ HW_ hHeld ?_ (hv := by rintro w' ⟨s0, s1, s2, s3, s4, s5, s6, s7, s8, s9⟩; go_simp; with_reducible rfl)
  refine tk 2 19 #[t_,f_,t_,f_,f_,f_,f_,f_,f_,f_] HT_ HW_ hHeld ?_ (hv := by rintro w' ⟨s0, s1, s2, s3, s4, s5, s6, s7, s8, s9⟩; go_simp; with_reducible rfl)
  refine one_ (i := 1) (N := some 18) #[t_,t_,t_,f_,f_,f_,f_,f_,f_,f_] rfl rfl (bh_ HT_.out (by kernel_rfl)) (by decide) (fun K hK => ?_)
  (first | refine goes_ Try.func6 (by kernel_rfl) rfl #[.agg #[.int .i64 a0_0, .int .i64 a0_1, .slice A0_2 l0_2.length c0_2, .slice A0_3 l0_3.length c0_3, .slice A0_4 l0_4.length c0_4]] (by rfl) rfl rfl (by first | rfl | (simp only [lma_, lmc_, lmn_]; first | done | rfl)) ?_ | refine RPW.by_ Try.func6 (by kernel_rfl) rfl #[.agg #[.int .i64 a0_0, .int .i64 a0_1, .slice A0_2 l0_2.length c0_2, .slice A0_3 l0_3.length c0_3, .slice A0_4 l0_4.length c0_4]] (by rfl) rfl rfl rfl (by first | rfl | (simp only [lma_, lmc_, lmn_]; first | done | rfl)) ?_ | refine RPW.bz_ Try.func6 (by kernel_rfl) rfl #[.agg #[.int .i64 a0_0, .int .i64 a0_1, .slice A0_2 l0_2.length c0_2, .slice A0_3 l0_3.length c0_3, .slice A0_4 l0_4.length c0_4]] (by rfl) rfl rfl rfl (by first | rfl | (simp only [lma_, lmc_, lmn_]; first | done | rfl)) ?_)
  with_reducible refine (bJ_.calls k a0_0 a0_1 _ _ l0_2 _ _ l0_3 _ _ l0_4 t104 t105 t106 t109 t112 _ ?side1 ?side2 ?side3 ?side4 ?side5 ?side6 A11.out).mono ?_
  (case side1 => exact cz (Kd.aF_ HR0_2.out HB.out))
  (case side2 => exact HC0_2.out)
  (case side3 => exact cz (Kd.aF_ HR0_3.out HB.out))
  (case side4 => exact HC0_3.out)
  (case side5 => exact cz (Kd.aF_ HR0_4.out HB.out))
  (case side6 => exact HC0_4.out)
  rintro e w19 ⟨v107, v110, v113, rfl, ho0, ho1, ho2, hb⟩
  refine ⟨_, rfl, ?_⟩
  have n0_ := Aside0.mk (Kd.bq_ ho0 (ae_ (bq)))
  have n1_ := Aside0.mk (Kd.S_lower ho1 (ae_ (bq)))
  have n2_ := Aside0.mk (Kd.bq_ ho2 (ae_ (bq)))
  have n3_ := Aside0.mk (aa_ (kz BK101.out) hb)
  have n4_ := Aside0.mk (aa_ (kz BK102.out) hb)
  have n5_ := Aside0.mk (ad_ (bq) hb)
  clear BK101
  clear BK102
  clear HB
  have HO108 := n0_
  have HO111 := n1_
  have HO114 := n2_
  have BK101 := n3_
  have BK102 := n4_
  have HB := n5_
  clear n0_ n1_ n2_ n3_ n4_ n5_
  (try clear hb)
  (try clear ho0)
  (try clear ho1)
  (try clear ho2)
  refine hK.out _ _ ⟨(ac_ BK101.out 0).trans rfl, (ac_ BK101.out 1).trans rfl, (ac_ BK101.out 2).trans rfl, (ac_ BK101.out 3).trans rfl, (ac_ BK101.out 4).trans rfl, (ac_ BK102.out 0).trans rfl, (ac_ BK102.out 1).trans rfl, (ac_ BK102.out 2).trans rfl, (ac_ BK102.out 3).trans rfl, (ac_ BK102.out 4).trans rfl⟩ (fun hHeld => ?_)
  clear hK K
  refine norm_ (a' := ?_) ?_ ?_
  rotate_left
  ·show Act.put _ (some 18) _ = _
   simp only [Act.put, lsa_, ls0_, ls1_, i64_w, i32_w]
   rfl
  refine one_ (i := 3) (N := some 20) #[t_,t_,t_,t_,f_,f_,f_,f_,f_,f_] rfl rfl (bh_ HT_.out (by kernel_rfl)) (by decide) (fun K hK => ?_)
  (first | refine goes_ Try.func7 (by kernel_rfl) rfl #[.agg #[.int .i64 a1_0, .int .i64 a1_1, .int .i64 a1_2, .int .i64 a1_3, .int .i64 a1_4]] (by rfl) rfl rfl (by first | rfl | (simp only [lma_, lmc_, lmn_]; first | done | rfl)) ?_ | refine RPW.by_ Try.func7 (by kernel_rfl) rfl #[.agg #[.int .i64 a1_0, .int .i64 a1_1, .int .i64 a1_2, .int .i64 a1_3, .int .i64 a1_4]] (by rfl) rfl rfl rfl (by first | rfl | (simp only [lma_, lmc_, lmn_]; first | done | rfl)) ?_ | refine RPW.bz_ Try.func7 (by kernel_rfl) rfl #[.agg #[.int .i64 a1_0, .int .i64 a1_1, .int .i64 a1_2, .int .i64 a1_3, .int .i64 a1_4]] (by rfl) rfl rfl rfl (by first | rfl | (simp only [lma_, lmc_, lmn_]; first | done | rfl)) ?_)
  with_reducible refine (ck_.calls a1_0 a1_1 a1_2 a1_3 a1_4 t115 t116 t117 t118 t119 _ A12.out).mono ?_
  rintro e w20 ⟨rfl, hb⟩
  refine ⟨_, rfl, ?_⟩
  have n0_ := Aside0.mk (Kd.bM_ (rz HO108.out) hb)
  have n1_ := Aside0.mk (Kd.do_ (sz HO111.out) hb)
  have n2_ := Aside0.mk (Kd.bM_ (rz HO114.out) hb)
  have n3_ := Aside0.mk (aa_ (kz BK101.out) hb)
  have n4_ := Aside0.mk (aa_ (kz BK102.out) hb)
  have n5_ := Aside0.mk (ad_ (bq) hb)
  clear HO108
  clear HO111
  clear HO114
  clear BK101
  clear BK102
  clear HB
  have HO108 := n0_
  have HO111 := n1_
  have HO114 := n2_
  have BK101 := n3_
  have BK102 := n4_
  have HB := n5_
  clear n0_ n1_ n2_ n3_ n4_ n5_
  (try clear hb)
  obtain ⟨Ao21, co21, eo21⟩ := Kd.bR_ HO108.out
  (first | subst eo21 | (injection eo21 with f1_ f2_ f3_; have f4_ := f1_.symm; have f5_ := f3_.symm; clear f1_ f2_ f3_; subst f4_; subst f5_))
  obtain ⟨Ao22, co22, eo22⟩ := Kd.S_slice HO111.out
  (first | subst eo22 | (injection eo22 with f1_ f2_ f3_; have f4_ := f1_.symm; have f5_ := f3_.symm; clear f1_ f2_ f3_; subst f4_; subst f5_))
  obtain ⟨Ao23, co23, eo23⟩ := Kd.bR_ HO114.out
  (first | subst eo23 | (injection eo23 with f1_ f2_ f3_; have f4_ := f1_.symm; have f5_ := f3_.symm; clear f1_ f2_ f3_; subst f4_; subst f5_))
  refine hK.out _ _ ⟨(ac_ BK101.out 0).trans rfl, (ac_ BK101.out 1).trans rfl, (ac_ BK101.out 2).trans rfl, (ac_ BK101.out 3).trans rfl, (ac_ BK101.out 4).trans rfl, (ac_ BK102.out 0).trans rfl, (ac_ BK102.out 1).trans rfl, (ac_ BK102.out 2).trans rfl, (ac_ BK102.out 3).trans rfl, (ac_ BK102.out 4).trans rfl⟩ (fun hHeld => ?_)
  clear hK K
  refine norm_ (a' := ?_) ?_ ?_
  rotate_left
  ·show Act.put _ (some 20) _ = _
   simp only [Act.put, lsa_, ls0_, ls1_, i64_w, i32_w]
   rfl
  refine one_ (i := 4) (N := some 21) #[t_,t_,t_,t_,t_,f_,f_,f_,f_,f_] rfl rfl (bh_ HT_.out (by kernel_rfl)) (by decide) (fun K hK => ?_)
  (first | refine goes_ Try.func5 (by kernel_rfl) rfl #[.agg #[.int .i64 t104, .int .i64 t105, .slice Ao21 t106.length co21, .slice Ao22 t109.length co22, .slice Ao23 t112.length co23], .agg #[.int .i64 t115, .int .i64 t116, .int .i64 t117, .int .i64 t118, .int .i64 t119]] (by rfl) rfl rfl (by first | rfl | (simp only [lma_, lmc_, lmn_]; first | done | rfl)) ?_ | refine RPW.by_ Try.func5 (by kernel_rfl) rfl #[.agg #[.int .i64 t104, .int .i64 t105, .slice Ao21 t106.length co21, .slice Ao22 t109.length co22, .slice Ao23 t112.length co23], .agg #[.int .i64 t115, .int .i64 t116, .int .i64 t117, .int .i64 t118, .int .i64 t119]] (by rfl) rfl rfl rfl (by first | rfl | (simp only [lma_, lmc_, lmn_]; first | done | rfl)) ?_ | refine RPW.bz_ Try.func5 (by kernel_rfl) rfl #[.agg #[.int .i64 t104, .int .i64 t105, .slice Ao21 t106.length co21, .slice Ao22 t109.length co22, .slice Ao23 t112.length co23], .agg #[.int .i64 t115, .int .i64 t116, .int .i64 t117, .int .i64 t118, .int .i64 t119]] (by rfl) rfl rfl rfl (by first | rfl | (simp only [lma_, lmc_, lmn_]; first | done | rfl)) ?_)
  with_reducible refine (cn_.calls k t104 t105 _ _ t106 _ _ t109 _ _ t112 t115 t116 t117 t118 t119 t120 t121 _ ?side1 ?side2 ?side3 ?side4 ?side5 ?side6 A13.out).mono ?_
  (case side1 => exact cz (Kd.aV_ HO108.out).2.2)
  (case side2 => exact (Kd.aV_ HO108.out).2.1)
  (case side3 => exact cz (Kd.ds_ HO111.out).2.2)
  (case side4 => exact (Kd.ds_ HO111.out).2.1)
  (case side5 => exact cz (Kd.aV_ HO114.out).2.2)
  (case side6 => exact (Kd.aV_ HO114.out).2.1)
  rintro e w24 ⟨rfl, hb⟩
  refine ⟨_, rfl, ?_⟩
  have n0_ := Aside0.mk (Kd.bM_ (rz HO108.out) hb)
  have n1_ := Aside0.mk (Kd.do_ (sz HO111.out) hb)
  have n2_ := Aside0.mk (Kd.bM_ (rz HO114.out) hb)
  have n3_ := Aside0.mk (aa_ (kz BK101.out) hb)
  have n4_ := Aside0.mk (aa_ (kz BK102.out) hb)
  have n5_ := Aside0.mk (ad_ (bq) hb)
  clear HO108
  clear HO111
  clear HO114
  clear BK101
  clear BK102
  clear HB
  have HO108 := n0_
  have HO111 := n1_
  have HO114 := n2_
  have BK101 := n3_
  have BK102 := n4_
  have HB := n5_
  clear n0_ n1_ n2_ n3_ n4_ n5_
  (try clear hb)
  refine hK.out _ _ ⟨(ac_ BK101.out 0).trans rfl, (ac_ BK101.out 1).trans rfl, (ac_ BK101.out 2).trans rfl, (ac_ BK101.out 3).trans rfl, (ac_ BK101.out 4).trans rfl, (ac_ BK102.out 0).trans rfl, (ac_ BK102.out 1).trans rfl, (ac_ BK102.out 2).trans rfl, (ac_ BK102.out 3).trans rfl, (ac_ BK102.out 4).trans rfl⟩ (fun hHeld => ?_)
  clear hK K
  refine norm_ (a' := ?_) ?_ ?_
  rotate_left
  ·show Act.put _ (some 21) _ = _
   simp only [Act.put, lsa_, ls0_, ls1_, i64_w, i32_w]
   rfl
  refine pu 5 16 #[t_,t_,t_,t_,t_,t_,f_,f_,f_,f_] HT_ ?_
  refine pu 6 22 #[t_,t_,t_,t_,t_,t_,t_,f_,f_,f_] HT_ ?_
  refine pu 7 23 #[t_,t_,t_,t_,t_,t_,t_,t_,f_,f_] HT_ ?_
  refine pu 8 6 #[t_,t_,t_,t_,t_,t_,t_,t_,t_,f_] HT_ ?_
  refine pu 9 7 #[t_,t_,t_,t_,t_,t_,t_,t_,t_,t_] HT_ ?_
  refine done_ (bS_ HT_.out (by kernel_rfl)) ?_
  have hnb25 := NB101_102.out
  have hnc25 := NB102_101.out
  obtain ⟨hcz26_0, hcz26_1, hcz26_2, hcz26_3, hcz26_4⟩ := cz5_ BK101.out
  obtain ⟨hfz26_0, hfz26_1, hfz26_2, hfz26_3, hfz26_4⟩ := fz5_ BK101.out
  try go_wp2_with (first | ((with_reducible refine an_ (f := 6) rfl ?_); refine aU_ (some 25) rfl rfl Try.func6 (by kernel_rfl) rfl #[.agg #[.int .i64 a0_0, .int .i64 a0_1, .slice A0_2 l0_2.length c0_2, .slice A0_3 l0_3.length c0_3, .slice A0_4 l0_4.length c0_4]] rfl (by first | rfl | (simp only [lma_, lmc_, lmn_]; first | done | rfl)) ?_; (with_reducible refine (bJ_.calls k a0_0 a0_1 _ _ l0_2 _ _ l0_3 _ _ l0_4 t122 t123 t124 t127 t130 _ ?side1 ?side2 ?side3 ?side4 ?side5 ?side6 A14.out).mono ?_); (case side1 => exact cz (Kd.aF_ HR0_2.out HB.out)); (case side2 => exact HC0_2.out); (case side3 => exact cz (Kd.aF_ HR0_3.out HB.out)); (case side4 => exact HC0_3.out); (case side5 => exact cz (Kd.aF_ HR0_4.out HB.out)); (case side6 => exact HC0_4.out); rintro e w27 ⟨v125, v128, v131, rfl, ho0, ho1, ho2, hb⟩; refine ⟨_, rfl, ?_⟩; have HO126 := Aside0.mk (Kd.bq_ (Kd.bL_ ho0 (Kd.R_lt (rz HO108.out))) (ae_ (bq))); replace HO108 := Aside0.mk (Kd.bc_ (rz HO108.out) (Kd.bG_ ho0) hb); have HO129 := Aside0.mk (Kd.S_lower (Kd.S_new' ho1 (Kd.S_lt (sz HO111.out))) (ae_ (bq))); replace HO111 := Aside0.mk (Kd.S_elder' (sz HO111.out) (Kd.S_base ho1) hb); have HO132 := Aside0.mk (Kd.bq_ (Kd.bL_ ho2 (Kd.R_lt (rz HO114.out))) (ae_ (bq))); replace HO114 := Aside0.mk (Kd.bc_ (rz HO114.out) (Kd.bG_ ho2) hb); replace BK101 := Aside0.mk (aa_ (kz BK101.out) hb); replace BK102 := Aside0.mk (aa_ (kz BK102.out) hb); replace HB := Aside0.mk (ad_ (bq) hb); (try clear hb); (try clear ho0); (try clear ho1); (try clear ho2)) | ((with_reducible refine al_ (N := 8) rfl ?_); refine ak_ ?hg (N := 8) ?hd (cs := #[.int .i64 0, .int .i64 0, .slice none 0 0, .slice none 0 0, .slice none 0 0]) (t := 40) ?hr ?_; (case hd => rfl); (case hg => rfl); (case hr => (go_simp; try rfl)); intro gb133 hg w28 hbox hb; replace HO108 := Aside0.mk (Kd.bM_ (rz HO108.out) hb); replace HO111 := Aside0.mk (Kd.do_ (sz HO111.out) hb); replace HO114 := Aside0.mk (Kd.bM_ (rz HO114.out) hb); replace HO126 := Aside0.mk (Kd.bM_ (rz HO126.out) hb); replace HO129 := Aside0.mk (Kd.do_ (sz HO129.out) hb); replace HO132 := Aside0.mk (Kd.bM_ (rz HO132.out) hb); have BK133 := Aside0.mk (hbox); have GW133 := Aside0.mk ((by rw [hg]; exact (ae_ (bq)) : w.heap.size ≤ gb133)); have GE133 := GW133; replace HB := Aside0.mk (ad_ (bq) hb); have NB101_133 := Aside0.mk ((by rw [hg]; exact Nat.ne_of_lt (aj_ (kz BK101.out)) : gb101 ≠ gb133)); have NB133_101 := Aside0.mk ((by rw [hg]; exact Nat.ne_of_gt (aj_ (kz BK101.out)) : gb133 ≠ gb101)); replace BK101 := Aside0.mk (aa_ (kz BK101.out) hb); have NB102_133 := Aside0.mk ((by rw [hg]; exact Nat.ne_of_lt (aj_ (kz BK102.out)) : gb102 ≠ gb133)); have NB133_102 := Aside0.mk ((by rw [hg]; exact Nat.ne_of_gt (aj_ (kz BK102.out)) : gb133 ≠ gb102)); replace BK102 := Aside0.mk (aa_ (kz BK102.out) hb); clear hb hbox hg; have hnb29 := NB133_101.out; have hnc29 := NB101_133.out; have hnb30 := NB133_102.out; have hnc30 := NB102_133.out; obtain ⟨hcz31_0, hcz31_1, hcz31_2, hcz31_3, hcz31_4⟩ := cz5_ BK133.out; obtain ⟨hfz31_0, hfz31_1, hfz31_2, hfz31_3, hfz31_4⟩ := fz5_ BK133.out; obtain ⟨Ao32, co32, eo32⟩ := Kd.bR_ HO126.out; subst eo32; obtain ⟨Ao33, co33, eo33⟩ := Kd.S_slice HO129.out; subst eo33; obtain ⟨Ao34, co34, eo34⟩ := Kd.bR_ HO132.out; subst eo34))
  have n0_ : Aside0 (Kd.R k81 81 (((((w28.setCell ⟨gb133, 0, none⟩ (.int .i64 t122)).setCell ⟨gb133, 1, none⟩ (.int .i64 t123)).setCell ⟨gb133, 2, none⟩ (.slice Ao32 t124.length co32)).setCell ⟨gb133, 3, none⟩ (.slice Ao33 t127.length co33)).setCell ⟨gb133, 4, none⟩ (.slice Ao34 t130.length co34)) w.heap.size (fun k_ => some k_ ≠ (.slice Ao32 t124.length co32 : Value).ownBlock) (.slice Ao21 t106.length co21) t106) := ⟨rz (Kd.bO_ (Kd.R_far (p := ⟨gb133, 4, none⟩) (Kd.R_far (p := ⟨gb133, 3, none⟩) (Kd.R_far (p := ⟨gb133, 2, none⟩) (Kd.R_far (p := ⟨gb133, 1, none⟩) (Kd.R_far (p := ⟨gb133, 0, none⟩) (Kd.de_ HO108.out BK133.out (by decide)) (fun _ hk => hk.2) (.int .i64 t122)) (fun _ hk => hk.2) (.int .i64 t123)) (fun _ hk => hk.2) (.slice Ao32 t124.length co32)) (fun _ hk => hk.2) (.slice Ao33 t127.length co33)) (fun _ hk => hk.2) (.slice Ao34 t130.length co34)) (fun _ hk => hk.1.2))⟩
  have n1_ : Aside0 (Kd.S k85 85 (((((w28.setCell ⟨gb133, 0, none⟩ (.int .i64 t122)).setCell ⟨gb133, 1, none⟩ (.int .i64 t123)).setCell ⟨gb133, 2, none⟩ (.slice Ao32 t124.length co32)).setCell ⟨gb133, 3, none⟩ (.slice Ao33 t127.length co33)).setCell ⟨gb133, 4, none⟩ (.slice Ao34 t130.length co34)) w.heap.size (fun k_ => some k_ ≠ (.slice Ao33 t127.length co33 : Value).ownBlock) (.slice Ao22 t109.length co22) t109) := ⟨sz (Kd.S_mono (Kd.S_far (p := ⟨gb133, 4, none⟩) (Kd.S_far (p := ⟨gb133, 3, none⟩) (Kd.S_far (p := ⟨gb133, 2, none⟩) (Kd.S_far (p := ⟨gb133, 1, none⟩) (Kd.S_far (p := ⟨gb133, 0, none⟩) (Kd.S_types HO111.out BK133.out (by decide)) (fun _ hk => hk.2) (.int .i64 t122)) (fun _ hk => hk.2) (.int .i64 t123)) (fun _ hk => hk.2) (.slice Ao32 t124.length co32)) (fun _ hk => hk.2) (.slice Ao33 t127.length co33)) (fun _ hk => hk.2) (.slice Ao34 t130.length co34)) (fun _ hk => hk.1.2))⟩
  have n2_ : Aside0 (Kd.R k56 56 (((((w28.setCell ⟨gb133, 0, none⟩ (.int .i64 t122)).setCell ⟨gb133, 1, none⟩ (.int .i64 t123)).setCell ⟨gb133, 2, none⟩ (.slice Ao32 t124.length co32)).setCell ⟨gb133, 3, none⟩ (.slice Ao33 t127.length co33)).setCell ⟨gb133, 4, none⟩ (.slice Ao34 t130.length co34)) w.heap.size (fun k_ => some k_ ≠ (.slice Ao34 t130.length co34 : Value).ownBlock) (.slice Ao23 t112.length co23) t112) := ⟨rz (Kd.bO_ (Kd.R_far (p := ⟨gb133, 4, none⟩) (Kd.R_far (p := ⟨gb133, 3, none⟩) (Kd.R_far (p := ⟨gb133, 2, none⟩) (Kd.R_far (p := ⟨gb133, 1, none⟩) (Kd.R_far (p := ⟨gb133, 0, none⟩) (Kd.de_ HO114.out BK133.out (by decide)) (fun _ hk => hk.2) (.int .i64 t122)) (fun _ hk => hk.2) (.int .i64 t123)) (fun _ hk => hk.2) (.slice Ao32 t124.length co32)) (fun _ hk => hk.2) (.slice Ao33 t127.length co33)) (fun _ hk => hk.2) (.slice Ao34 t130.length co34)) (fun _ hk => hk.1.2))⟩
  have n3_ : Aside0 (Kd.R k81 81 (((((w28.setCell ⟨gb133, 0, none⟩ (.int .i64 t122)).setCell ⟨gb133, 1, none⟩ (.int .i64 t123)).setCell ⟨gb133, 2, none⟩ (.slice Ao32 t124.length co32)).setCell ⟨gb133, 3, none⟩ (.slice Ao33 t127.length co33)).setCell ⟨gb133, 4, none⟩ (.slice Ao34 t130.length co34)) w.heap.size (fun k_ => some k_ ≠ (.slice Ao21 t106.length co21 : Value).ownBlock) (.slice Ao32 t124.length co32) t124) := ⟨rz (Kd.bO_ (Kd.R_far (p := ⟨gb133, 4, none⟩) (Kd.R_far (p := ⟨gb133, 3, none⟩) (Kd.R_far (p := ⟨gb133, 2, none⟩) (Kd.R_far (p := ⟨gb133, 1, none⟩) (Kd.R_far (p := ⟨gb133, 0, none⟩) (Kd.de_ HO126.out BK133.out (by decide)) (fun _ hk => hk.2) (.int .i64 t122)) (fun _ hk => hk.2) (.int .i64 t123)) (fun _ hk => hk.2) (.slice Ao32 t124.length co32)) (fun _ hk => hk.2) (.slice Ao33 t127.length co33)) (fun _ hk => hk.2) (.slice Ao34 t130.length co34)) (fun _ hk => hk.1.2))⟩
  have n4_ : Aside0 (Kd.S k85 85 (((((w28.setCell ⟨gb133, 0, none⟩ (.int .i64 t122)).setCell ⟨gb133, 1, none⟩ (.int .i64 t123)).setCell ⟨gb133, 2, none⟩ (.slice Ao32 t124.length co32)).setCell ⟨gb133, 3, none⟩ (.slice Ao33 t127.length co33)).setCell ⟨gb133, 4, none⟩ (.slice Ao34 t130.length co34)) w.heap.size (fun k_ => some k_ ≠ (.slice Ao22 t109.length co22 : Value).ownBlock) (.slice Ao33 t127.length co33) t127) := ⟨sz (Kd.S_mono (Kd.S_far (p := ⟨gb133, 4, none⟩) (Kd.S_far (p := ⟨gb133, 3, none⟩) (Kd.S_far (p := ⟨gb133, 2, none⟩) (Kd.S_far (p := ⟨gb133, 1, none⟩) (Kd.S_far (p := ⟨gb133, 0, none⟩) (Kd.S_types HO129.out BK133.out (by decide)) (fun _ hk => hk.2) (.int .i64 t122)) (fun _ hk => hk.2) (.int .i64 t123)) (fun _ hk => hk.2) (.slice Ao32 t124.length co32)) (fun _ hk => hk.2) (.slice Ao33 t127.length co33)) (fun _ hk => hk.2) (.slice Ao34 t130.length co34)) (fun _ hk => hk.1.2))⟩
  have n5_ : Aside0 (Kd.R k56 56 (((((w28.setCell ⟨gb133, 0, none⟩ (.int .i64 t122)).setCell ⟨gb133, 1, none⟩ (.int .i64 t123)).setCell ⟨gb133, 2, none⟩ (.slice Ao32 t124.length co32)).setCell ⟨gb133, 3, none⟩ (.slice Ao33 t127.length co33)).setCell ⟨gb133, 4, none⟩ (.slice Ao34 t130.length co34)) w.heap.size (fun k_ => some k_ ≠ (.slice Ao23 t112.length co23 : Value).ownBlock) (.slice Ao34 t130.length co34) t130) := ⟨rz (Kd.bO_ (Kd.R_far (p := ⟨gb133, 4, none⟩) (Kd.R_far (p := ⟨gb133, 3, none⟩) (Kd.R_far (p := ⟨gb133, 2, none⟩) (Kd.R_far (p := ⟨gb133, 1, none⟩) (Kd.R_far (p := ⟨gb133, 0, none⟩) (Kd.de_ HO132.out BK133.out (by decide)) (fun _ hk => hk.2) (.int .i64 t122)) (fun _ hk => hk.2) (.int .i64 t123)) (fun _ hk => hk.2) (.slice Ao32 t124.length co32)) (fun _ hk => hk.2) (.slice Ao33 t127.length co33)) (fun _ hk => hk.2) (.slice Ao34 t130.length co34)) (fun _ hk => hk.1.2))⟩
  have n6_ : Aside0 ((((((w28.setCell ⟨gb133, 0, none⟩ (.int .i64 t122)).setCell ⟨gb133, 1, none⟩ (.int .i64 t123)).setCell ⟨gb133, 2, none⟩ (.slice Ao32 t124.length co32)).setCell ⟨gb133, 3, none⟩ (.slice Ao33 t127.length co33)).setCell ⟨gb133, 4, none⟩ (.slice Ao34 t130.length co34)).heap[gb101]? = some (.cells #[.int .i64 a0_0, .int .i64 a0_1, .slice A0_2 l0_2.length c0_2, .slice A0_3 l0_3.length c0_3, .slice A0_4 l0_4.length c0_4] 28 (0, 0))) := ⟨by exact kf (kf (kf (kf (kf (kz BK101.out) NB101_133.out) NB101_133.out) NB101_133.out) NB101_133.out) NB101_133.out⟩
  have n7_ : Aside0 ((((((w28.setCell ⟨gb133, 0, none⟩ (.int .i64 t122)).setCell ⟨gb133, 1, none⟩ (.int .i64 t123)).setCell ⟨gb133, 2, none⟩ (.slice Ao32 t124.length co32)).setCell ⟨gb133, 3, none⟩ (.slice Ao33 t127.length co33)).setCell ⟨gb133, 4, none⟩ (.slice Ao34 t130.length co34)).heap[gb102]? = some (.cells #[.int .i64 a1_0, .int .i64 a1_1, .int .i64 a1_2, .int .i64 a1_3, .int .i64 a1_4] 30 (0, 0))) := ⟨by exact kf (kf (kf (kf (kf (kz BK102.out) NB102_133.out) NB102_133.out) NB102_133.out) NB102_133.out) NB102_133.out⟩
  have n8_ : Aside0 ((((((w28.setCell ⟨gb133, 0, none⟩ (.int .i64 t122)).setCell ⟨gb133, 1, none⟩ (.int .i64 t123)).setCell ⟨gb133, 2, none⟩ (.slice Ao32 t124.length co32)).setCell ⟨gb133, 3, none⟩ (.slice Ao33 t127.length co33)).setCell ⟨gb133, 4, none⟩ (.slice Ao34 t130.length co34)).heap[gb133]? = some (.cells #[.int .i64 t122, .int .i64 t123, .slice Ao32 t124.length co32, .slice Ao33 t127.length co33, .slice Ao34 t130.length co34] 40 (0, 0))) := ⟨by exact kj5_4 (kj5_3 (kj5_2 (kj5_1 (kj5_0 (kz BK133.out)))))⟩
  have n9_ : Aside0 (Below w.heap.size w (((((w28.setCell ⟨gb133, 0, none⟩ (.int .i64 t122)).setCell ⟨gb133, 1, none⟩ (.int .i64 t123)).setCell ⟨gb133, 2, none⟩ (.slice Ao32 t124.length co32)).setCell ⟨gb133, 3, none⟩ (.slice Ao33 t127.length co33)).setCell ⟨gb133, 4, none⟩ (.slice Ao34 t130.length co34))) := ⟨bq⟩
  (try clear HO108)
  (try clear HO111)
  (try clear HO114)
  (try clear HO126)
  (try clear HO129)
  (try clear HO132)
  (try clear BK101)
  (try clear BK102)
  (try clear BK133)
  (try clear HB)
  generalize (((((w28.setCell ⟨gb133, 0, none⟩ (.int .i64 t122)).setCell ⟨gb133, 1, none⟩ (.int .i64 t123)).setCell ⟨gb133, 2, none⟩ (.slice Ao32 t124.length co32)).setCell ⟨gb133, 3, none⟩ (.slice Ao33 t127.length co33)).setCell ⟨gb133, 4, none⟩ (.slice Ao34 t130.length co34)) = w35 at n0_ n1_ n2_ n3_ n4_ n5_ n6_ n7_ n8_ n9_ ⊢
  have HO108 := n0_
  have HO111 := n1_
  have HO114 := n2_
  have HO126 := n3_
  have HO129 := n4_
  have HO132 := n5_
  have BK101 := n6_
  have BK102 := n7_
  have BK133 := n8_
  have HB := n9_
  clear n0_ n1_ n2_ n3_ n4_ n5_ n6_ n7_ n8_ n9_
  have n0_ := Aside0.mk (Kd.R_drew HO108.out)
  have n1_ := Aside0.mk (Kd.S_drew HO111.out)
  have n2_ := Aside0.mk (Kd.R_drew HO114.out)
  have n3_ := Aside0.mk (Kd.R_drew HO126.out)
  have n4_ := Aside0.mk (Kd.S_drew HO129.out)
  have n5_ := Aside0.mk (Kd.R_drew HO132.out)
  have n6_ := Aside0.mk (av_ BK101.out)
  have n7_ := Aside0.mk (av_ BK102.out)
  have n8_ := Aside0.mk (av_ BK133.out)
  have n9_ := Aside0.mk (bD_ HB.out)
  clear HO108
  clear HO111
  clear HO114
  clear HO126
  clear HO129
  clear HO132
  clear BK101
  clear BK102
  clear BK133
  clear HB
  have HO108 := n0_
  have HO111 := n1_
  have HO114 := n2_
  have HO126 := n3_
  have HO129 := n4_
  have HO132 := n5_
  have BK101 := n6_
  have BK102 := n7_
  have BK133 := n8_
  have HB := n9_
  clear n0_ n1_ n2_ n3_ n4_ n5_ n6_ n7_ n8_ n9_
  refine cl_ (n := 9) (S := fun w' => w'.cell? ⟨gb133, 0, none⟩ = some (.int .i64 t122) ∧ w'.cell? ⟨gb133, 1, none⟩ = some (.int .i64 t123) ∧ w'.cell? ⟨gb133, 2, none⟩ = some (.slice Ao32 t124.length co32) ∧ w'.cell? ⟨gb133, 3, none⟩ = some (.slice Ao33 t127.length co33) ∧ w'.cell? ⟨gb133, 4, none⟩ = some (.slice Ao34 t130.length co34) ∧ w'.cell? ⟨gb102, 0, none⟩ = some (.int .i64 a1_0) ∧ w'.cell? ⟨gb102, 1, none⟩ = some (.int .i64 a1_1) ∧ w'.cell? ⟨gb102, 2, none⟩ = some (.int .i64 a1_2) ∧ w'.cell? ⟨gb102, 3, none⟩ = some (.int .i64 a1_3) ∧ w'.cell? ⟨gb102, 4, none⟩ = some (.int .i64 a1_4)) (ds := []) #[f_,f_,f_,f_,f_,f_,f_,f_,f_] (by kernel_rfl) rfl rfl ⟨(ac_ BK133.out 0).trans rfl, (ac_ BK133.out 1).trans rfl, (ac_ BK133.out 2).trans rfl, (ac_ BK133.out 3).trans rfl, (ac_ BK133.out 4).trans rfl, (ac_ BK102.out 0).trans rfl, (ac_ BK102.out 1).trans rfl, (ac_ BK102.out 2).trans rfl, (ac_ BK102.out 3).trans rfl, (ac_ BK102.out 4).trans rfl⟩ (fun hHeld => ?_); refine bo_ ap_.tab7 ap_.bits7 (fun HT_ HW_ => ?_)
  generalize w35.drew = w36 at HO108 HO111 HO114 HO126 HO129 HO132 BK101 BK102 BK133 HB hHeld ⊢
  refine tk 0 27 #[t_,f_,f_,f_,f_,f_,f_,f_,f_] HT_ HW_ hHeld ?_ (hv := by rintro w' ⟨s0, s1, s2, s3, s4, s5, s6, s7, s8, s9⟩; go_simp; with_reducible rfl)
  refine tk 1 28 #[t_,t_,f_,f_,f_,f_,f_,f_,f_] HT_ HW_ hHeld ?_ (hv := by rintro w' ⟨s0, s1, s2, s3, s4, s5, s6, s7, s8, s9⟩; go_simp; with_reducible rfl)
  refine one_ (i := 2) (N := some 29) #[t_,t_,t_,f_,f_,f_,f_,f_,f_] rfl rfl (bh_ HT_.out (by kernel_rfl)) (by decide) (fun K hK => ?_)
  (first | refine goes_ Try.func7 (by kernel_rfl) rfl #[.agg #[.int .i64 a1_0, .int .i64 a1_1, .int .i64 a1_2, .int .i64 a1_3, .int .i64 a1_4]] (by rfl) rfl rfl (by first | rfl | (simp only [lma_, lmc_, lmn_]; first | done | rfl)) ?_ | refine RPW.by_ Try.func7 (by kernel_rfl) rfl #[.agg #[.int .i64 a1_0, .int .i64 a1_1, .int .i64 a1_2, .int .i64 a1_3, .int .i64 a1_4]] (by rfl) rfl rfl rfl (by first | rfl | (simp only [lma_, lmc_, lmn_]; first | done | rfl)) ?_ | refine RPW.bz_ Try.func7 (by kernel_rfl) rfl #[.agg #[.int .i64 a1_0, .int .i64 a1_1, .int .i64 a1_2, .int .i64 a1_3, .int .i64 a1_4]] (by rfl) rfl rfl rfl (by first | rfl | (simp only [lma_, lmc_, lmn_]; first | done | rfl)) ?_)
  with_reducible refine (ck_.calls a1_0 a1_1 a1_2 a1_3 a1_4 t134 t135 t136 t137 t138 _ A15.out).mono ?_
  rintro e w37 ⟨rfl, hb⟩
  refine ⟨_, rfl, ?_⟩
  have n0_ := Aside0.mk (Kd.bM_ (rz HO108.out) hb)
  have n1_ := Aside0.mk (Kd.do_ (sz HO111.out) hb)
  have n2_ := Aside0.mk (Kd.bM_ (rz HO114.out) hb)
  have n3_ := Aside0.mk (Kd.bM_ (rz HO126.out) hb)
  have n4_ := Aside0.mk (Kd.do_ (sz HO129.out) hb)
  have n5_ := Aside0.mk (Kd.bM_ (rz HO132.out) hb)
  have n6_ := Aside0.mk (aa_ (kz BK101.out) hb)
  have n7_ := Aside0.mk (aa_ (kz BK102.out) hb)
  have n8_ := Aside0.mk (aa_ (kz BK133.out) hb)
  have n9_ := Aside0.mk (ad_ (bq) hb)
  clear HO108
  clear HO111
  clear HO114
  clear HO126
  clear HO129
  clear HO132
  clear BK101
  clear BK102
  clear BK133
  clear HB
  have HO108 := n0_
  have HO111 := n1_
  have HO114 := n2_
  have HO126 := n3_
  have HO129 := n4_
  have HO132 := n5_
  have BK101 := n6_
  have BK102 := n7_
  have BK133 := n8_
  have HB := n9_
  clear n0_ n1_ n2_ n3_ n4_ n5_ n6_ n7_ n8_ n9_
  (try clear hb)
  refine hK.out _ _ ⟨(ac_ BK133.out 0).trans rfl, (ac_ BK133.out 1).trans rfl, (ac_ BK133.out 2).trans rfl, (ac_ BK133.out 3).trans rfl, (ac_ BK133.out 4).trans rfl, (ac_ BK102.out 0).trans rfl, (ac_ BK102.out 1).trans rfl, (ac_ BK102.out 2).trans rfl, (ac_ BK102.out 3).trans rfl, (ac_ BK102.out 4).trans rfl⟩ (fun hHeld => ?_)
  clear hK K
  refine norm_ (a' := ?_) ?_ ?_
  rotate_left
  ·show Act.put _ (some 29) _ = _
   simp only [Act.put, lsa_, ls0_, ls1_, i64_w, i32_w]
   rfl
  refine one_ (i := 3) (N := some 30) #[t_,t_,t_,t_,f_,f_,f_,f_,f_] rfl rfl (bh_ HT_.out (by kernel_rfl)) (by decide) (fun K hK => ?_)
  (first | refine goes_ Try.func8 (by kernel_rfl) rfl #[.agg #[.int .i64 t122, .int .i64 t123, .slice Ao32 t124.length co32, .slice Ao33 t127.length co33, .slice Ao34 t130.length co34], .agg #[.int .i64 t134, .int .i64 t135, .int .i64 t136, .int .i64 t137, .int .i64 t138]] (by rfl) rfl rfl (by first | rfl | (simp only [lma_, lmc_, lmn_]; first | done | rfl)) ?_ | refine RPW.by_ Try.func8 (by kernel_rfl) rfl #[.agg #[.int .i64 t122, .int .i64 t123, .slice Ao32 t124.length co32, .slice Ao33 t127.length co33, .slice Ao34 t130.length co34], .agg #[.int .i64 t134, .int .i64 t135, .int .i64 t136, .int .i64 t137, .int .i64 t138]] (by rfl) rfl rfl rfl (by first | rfl | (simp only [lma_, lmc_, lmn_]; first | done | rfl)) ?_ | refine RPW.bz_ Try.func8 (by kernel_rfl) rfl #[.agg #[.int .i64 t122, .int .i64 t123, .slice Ao32 t124.length co32, .slice Ao33 t127.length co33, .slice Ao34 t130.length co34], .agg #[.int .i64 t134, .int .i64 t135, .int .i64 t136, .int .i64 t137, .int .i64 t138]] (by rfl) rfl rfl rfl (by first | rfl | (simp only [lma_, lmc_, lmn_]; first | done | rfl)) ?_)
  with_reducible refine (az_.calls k t122 t123 _ _ t124 _ _ t127 _ _ t130 t134 t135 t136 t137 t138 t139 t140 _ ?side1 ?side2 ?side3 ?side4 ?side5 ?side6 A16.out).mono ?_
  (case side1 => exact cz (Kd.aV_ HO126.out).2.2)
  (case side2 => exact (Kd.aV_ HO126.out).2.1)
  (case side3 => exact cz (Kd.ds_ HO129.out).2.2)
  (case side4 => exact (Kd.ds_ HO129.out).2.1)
  (case side5 => exact cz (Kd.aV_ HO132.out).2.2)
  (case side6 => exact (Kd.aV_ HO132.out).2.1)
  rintro e w38 ⟨rfl, hb⟩
  refine ⟨_, rfl, ?_⟩
  have n0_ := Aside0.mk (Kd.bM_ (rz HO108.out) hb)
  have n1_ := Aside0.mk (Kd.do_ (sz HO111.out) hb)
  have n2_ := Aside0.mk (Kd.bM_ (rz HO114.out) hb)
  have n3_ := Aside0.mk (Kd.bM_ (rz HO126.out) hb)
  have n4_ := Aside0.mk (Kd.do_ (sz HO129.out) hb)
  have n5_ := Aside0.mk (Kd.bM_ (rz HO132.out) hb)
  have n6_ := Aside0.mk (aa_ (kz BK101.out) hb)
  have n7_ := Aside0.mk (aa_ (kz BK102.out) hb)
  have n8_ := Aside0.mk (aa_ (kz BK133.out) hb)
  have n9_ := Aside0.mk (ad_ (bq) hb)
  clear HO108
  clear HO111
  clear HO114
  clear HO126
  clear HO129
  clear HO132
  clear BK101
  clear BK102
  clear BK133
  clear HB
  have HO108 := n0_
  have HO111 := n1_
  have HO114 := n2_
  have HO126 := n3_
  have HO129 := n4_
  have HO132 := n5_
  have BK101 := n6_
  have BK102 := n7_
  have BK133 := n8_
  have HB := n9_
  clear n0_ n1_ n2_ n3_ n4_ n5_ n6_ n7_ n8_ n9_
  (try clear hb)
  refine hK.out _ _ ⟨(ac_ BK133.out 0).trans rfl, (ac_ BK133.out 1).trans rfl, (ac_ BK133.out 2).trans rfl, (ac_ BK133.out 3).trans rfl, (ac_ BK133.out 4).trans rfl, (ac_ BK102.out 0).trans rfl, (ac_ BK102.out 1).trans rfl, (ac_ BK102.out 2).trans rfl, (ac_ BK102.out 3).trans rfl, (ac_ BK102.out 4).trans rfl⟩ (fun hHeld => ?_)
  clear hK K
  refine norm_ (a' := ?_) ?_ ?_
  rotate_left
  ·show Act.put _ (some 30) _ = _
   simp only [Act.put, lsa_, ls0_, ls1_, i64_w, i32_w]
   rfl
  refine pu 4 26 #[t_,t_,t_,t_,t_,f_,f_,f_,f_] HT_ ?_
  refine pu 5 31 #[t_,t_,t_,t_,t_,t_,f_,f_,f_] HT_ ?_
  refine pu 6 32 #[t_,t_,t_,t_,t_,t_,t_,f_,f_] HT_ ?_
  refine pu 7 9 #[t_,t_,t_,t_,t_,t_,t_,t_,f_] HT_ ?_
  refine pu 8 10 #[t_,t_,t_,t_,t_,t_,t_,t_,t_] HT_ ?_
  refine done_ (bS_ HT_.out (by kernel_rfl)) ?_
  go_upto_region 8 with (fail)
  go_cut [40] (fun v40 wc => ∃ (kq : Nat) (x40_16 : Bool), v40 = .bool x40_16 ∧ Aside0 (ap_.j0 kq x40_16 a0_0 a0_1 l0_2 l0_3 l0_4 t122 t123 t124 t127 t130 = some r) ∧ Aside0 (kq ≤ k) ∧ Aside0 (Kd.R k81 81 wc w.heap.size (fun _ => True) (.slice Ao32 t124.length co32) t124) ∧ Aside0 (Kd.S k85 85 wc w.heap.size (fun _ => True) (.slice Ao33 t127.length co33) t127) ∧ Aside0 (Kd.R k56 56 wc w.heap.size (fun _ => True) (.slice Ao34 t130.length co34) t130) ∧ Aside0 (wc.heap[gb101]? = some (.cells #[.int .i64 a0_0, .int .i64 a0_1, (.slice A0_2 l0_2.length c0_2), (.slice A0_3 l0_3.length c0_3), (.slice A0_4 l0_4.length c0_4)] 28 (0, 0))) ∧ Aside0 (wc.heap[gb102]? = some (.cells #[.int .i64 a1_0, .int .i64 a1_1, .int .i64 a1_2, .int .i64 a1_3, .int .i64 a1_4] 30 (0, 0))) ∧ Aside0 (wc.heap[gb133]? = some (.cells #[.int .i64 t122, .int .i64 t123, (.slice Ao32 t124.length co32), (.slice Ao33 t127.length co33), (.slice Ao34 t130.length co34)] 40 (0, 0))) ∧ Aside0 (Below w.heap.size w wc))
  case first =>
   have H := HC17.out
   clear HC17
   by_cases c39 : t139 = t120
   rotate_left
   ·rw [if_neg c39] at H
    have c39b0 : (t139 == t120) = false := beq_eq_false_iff_ne.mpr c39
    have c39b1 : (t139 != t120) = true := bne_iff_ne.mpr c39
    (first | rw [c39b0] | (simp only [i64_w, i32_w]; rw [c39b0]) | (simp only [c39b1, Bool.not_true, Bool.not_false]) | (simp only [c39b0, Bool.not_true, Bool.not_false]) | skip)
    have H' := Aside0.mk H
    clear H
    go_wp2
    go_meet
    case rel => exact ⟨_, (true), (by first | rfl | (simp; done) | (simp [*]; done)), H', ⟨by first | omega | exact Nat.le_refl _⟩, ⟨rz (Kd.bO_ HO126.out (fun _ hk => trivial))⟩, ⟨sz (Kd.S_mono HO129.out (fun _ hk => trivial))⟩, ⟨rz (Kd.bO_ HO132.out (fun _ hk => trivial))⟩, ⟨by (with_reducible repeat (first | refine aL_ ?_ _ | refine av_ ?_ | refine aM_ ?_ _)); exact BK101.out⟩, ⟨by (with_reducible repeat (first | refine aL_ ?_ _ | refine av_ ?_ | refine aM_ ?_ _)); exact BK102.out⟩, ⟨by (with_reducible repeat (first | refine aL_ ?_ _ | refine av_ ?_ | refine aM_ ?_ _)); exact BK133.out⟩, ⟨bq⟩⟩
   rw [if_pos c39] at H
   have c39b0 : (t139 == t120) = true := beq_iff_eq.mpr c39
   have c39b1 : (t139 != t120) = false := bne_eq_false_iff_eq.mpr c39
   clear c39
   (first | rw [c39b0] | (simp only [i64_w, i32_w]; rw [c39b0]) | (simp only [c39b1, Bool.not_true, Bool.not_false]) | (simp only [c39b0, Bool.not_true, Bool.not_false]) | skip)
   have H' := Aside0.mk H
   clear H
   go_wp2
   go_meet
   case rel => exact ⟨_, ((t140 != t121)), (by first | rfl | (simp; done) | (simp [*]; done)), H', ⟨by first | omega | exact Nat.le_refl _⟩, ⟨rz (Kd.bO_ HO126.out (fun _ hk => trivial))⟩, ⟨sz (Kd.S_mono HO129.out (fun _ hk => trivial))⟩, ⟨rz (Kd.bO_ HO132.out (fun _ hk => trivial))⟩, ⟨by (with_reducible repeat (first | refine aL_ ?_ _ | refine av_ ?_ | refine aM_ ?_ _)); exact BK101.out⟩, ⟨by (with_reducible repeat (first | refine aL_ ?_ _ | refine av_ ?_ | refine aM_ ?_ _)); exact BK102.out⟩, ⟨by (with_reducible repeat (first | refine aL_ ?_ _ | refine av_ ?_ | refine aM_ ?_ _)); exact BK133.out⟩, ⟨bq⟩⟩
  case rest =>
   clear HC17
   obtain ⟨kq, x40_16, rfl, HA, HJ16, HO_134002, HO_134003, HO_134004, BK101, BK102, BK133, HB⟩ := hcut
   cases kq with
   | zero => exact absurd HA.out (by simp [ap_.j0])
   | succ kj16 =>
    have H := HA.out
    clear HA
    simp only [ap_.j0] at H
    by_cases c40 : x40_16 = true
    rotate_left
    ·replace c40 := Bool.eq_false_iff.mpr c40
     subst c40
     have H1 : ((bJ_.f kj16 a0_0 a0_1 l0_2 l0_3 l0_4).bind fun bt141 => ((cA_.f kj16 t122 t123 t124 t127 t130 bt141.1 bt141.2.1 bt141.2.2.1 bt141.2.2.2.1 bt141.2.2.2.2).bind fun t152 => (if t152 = true then (some true) else (some false)))) = some r := by rw [if_neg (show ¬ (false = true) by decide)] at H; exact H
     clear H
     have H := H1
     clear H1
     replace H := Option.bind_eq_some_iff.mp H
     obtain ⟨⟨t141, t142, t143, t146, t149⟩, A410, H⟩ := H
     (try dsimp only at H)
     have A41 := Aside0.mk A410
     clear A410
     replace H := Option.bind_eq_some_iff.mp H
     obtain ⟨t152, A420, H⟩ := H
     (try dsimp only at H)
     have A42 := Aside0.mk A420
     clear A420
     have HC43 := Aside0.mk H
     clear H
     try go_wp2
     (try (rw [cR_ wc]; generalize hq_ : World.drewN wc _ = wc; have n0_ : Aside0 (Kd.R k81 81 wc w.heap.size (fun k_ => True) (.slice Ao32 t124.length co32) t124) := ⟨by rw [← hq_]; exact (rz HO_134002.out)⟩; have n1_ : Aside0 (Kd.S k85 85 wc w.heap.size (fun k_ => True) (.slice Ao33 t127.length co33) t127) := ⟨by rw [← hq_]; exact (sz HO_134003.out)⟩; have n2_ : Aside0 (Kd.R k56 56 wc w.heap.size (fun k_ => True) (.slice Ao34 t130.length co34) t130) := ⟨by rw [← hq_]; exact (rz HO_134004.out)⟩; have n3_ : Aside0 (wc.heap[gb101]? = some (.cells #[.int .i64 a0_0, .int .i64 a0_1, .slice A0_2 l0_2.length c0_2, .slice A0_3 l0_3.length c0_3, .slice A0_4 l0_4.length c0_4] 28 (0, 0))) := ⟨by rw [← hq_]; exact (kz BK101.out)⟩; have n4_ : Aside0 (wc.heap[gb102]? = some (.cells #[.int .i64 a1_0, .int .i64 a1_1, .int .i64 a1_2, .int .i64 a1_3, .int .i64 a1_4] 30 (0, 0))) := ⟨by rw [← hq_]; exact (kz BK102.out)⟩; have n5_ : Aside0 (wc.heap[gb133]? = some (.cells #[.int .i64 t122, .int .i64 t123, .slice Ao32 t124.length co32, .slice Ao33 t127.length co33, .slice Ao34 t130.length co34] 40 (0, 0))) := ⟨by rw [← hq_]; exact (kz BK133.out)⟩; have n6_ : Aside0 (Below w.heap.size w wc) := ⟨by rw [← hq_]; exact (bq)⟩; clear HO_134002 HO_134003 HO_134004 BK101 BK102 BK133 HB hq_; have HO_134002 := n0_; have HO_134003 := n1_; have HO_134004 := n2_; have BK101 := n3_; have BK102 := n4_; have BK133 := n5_; have HB := n6_; clear n0_ n1_ n2_ n3_ n4_ n5_ n6_))
     have n0_ := Aside0.mk (Kd.R_drew HO_134002.out)
     have n1_ := Aside0.mk (Kd.S_drew HO_134003.out)
     have n2_ := Aside0.mk (Kd.R_drew HO_134004.out)
     have n3_ := Aside0.mk (av_ BK101.out)
     have n4_ := Aside0.mk (av_ BK102.out)
     have n5_ := Aside0.mk (av_ BK133.out)
     have n6_ := Aside0.mk (bD_ HB.out)
     clear HO_134002
     clear HO_134003
     clear HO_134004
     clear BK101
     clear BK102
     clear BK133
     clear HB
     have HO_134002 := n0_
     have HO_134003 := n1_
     have HO_134004 := n2_
     have BK101 := n3_
     have BK102 := n4_
     have BK133 := n5_
     have HB := n6_
     clear n0_ n1_ n2_ n3_ n4_ n5_ n6_
     refine cl_ (n := 5) (S := fun w' => w'.cell? ⟨gb133, 0, none⟩ = some (.int .i64 t122) ∧ w'.cell? ⟨gb133, 1, none⟩ = some (.int .i64 t123) ∧ w'.cell? ⟨gb133, 2, none⟩ = some (.slice Ao32 t124.length co32) ∧ w'.cell? ⟨gb133, 3, none⟩ = some (.slice Ao33 t127.length co33) ∧ w'.cell? ⟨gb133, 4, none⟩ = some (.slice Ao34 t130.length co34) ∧ w'.cell? ⟨gb101, 0, none⟩ = some (.int .i64 a0_0) ∧ w'.cell? ⟨gb101, 1, none⟩ = some (.int .i64 a0_1) ∧ w'.cell? ⟨gb101, 2, none⟩ = some (.slice A0_2 l0_2.length c0_2) ∧ w'.cell? ⟨gb101, 3, none⟩ = some (.slice A0_3 l0_3.length c0_3) ∧ w'.cell? ⟨gb101, 4, none⟩ = some (.slice A0_4 l0_4.length c0_4)) (ds := []) #[f_,f_,f_,f_,f_] (by kernel_rfl) rfl rfl ⟨(ac_ BK133.out 0).trans rfl, (ac_ BK133.out 1).trans rfl, (ac_ BK133.out 2).trans rfl, (ac_ BK133.out 3).trans rfl, (ac_ BK133.out 4).trans rfl, (ac_ BK101.out 0).trans rfl, (ac_ BK101.out 1).trans rfl, (ac_ BK101.out 2).trans rfl, (ac_ BK101.out 3).trans rfl, (ac_ BK101.out 4).trans rfl⟩ (fun hHeld => ?_)
     generalize wc.drew = w44 at HO_134002 HO_134003 HO_134004 BK101 BK102 BK133 HB hHeld ⊢
     refine take_ (i := 0) (N := some 41) (v := ?_) (a' := ?_) #[t_,f_,f_,f_,f_] rfl rfl (by kernel_rfl) (fun _ _ _ h => h) (Or.inl ⟨by rfl, ?_⟩) hHeld ?_ ?_
     rotate_left
     ·rintro w' ⟨s0, s1, s2, s3, s4, s5, s6, s7, s8, s9⟩
      go_simp
      with_reducible rfl
     rotate_left
     ·simp only [Act.put, lsa_, ls0_, ls1_, i64_w, i32_w]
      rfl
     refine take_ (i := 1) (N := some 42) (v := ?_) (a' := ?_) #[t_,t_,f_,f_,f_] rfl rfl (by kernel_rfl) (fun _ _ _ h => h) (Or.inl ⟨by rfl, ?_⟩) hHeld ?_ ?_
     rotate_left
     ·rintro w' ⟨s0, s1, s2, s3, s4, s5, s6, s7, s8, s9⟩
      go_simp
      with_reducible rfl
     rotate_left
     ·simp only [Act.put, lsa_, ls0_, ls1_, i64_w, i32_w]
      rfl
     refine one_ (i := 2) (N := some 43) #[t_,t_,t_,f_,f_] rfl rfl (by kernel_rfl) (by decide) (fun K hK => ?_)
     (first | refine goes_ Try.func6 (by kernel_rfl) rfl #[.agg #[.int .i64 a0_0, .int .i64 a0_1, .slice A0_2 l0_2.length c0_2, .slice A0_3 l0_3.length c0_3, .slice A0_4 l0_4.length c0_4]] (by rfl) rfl rfl (by first | rfl | (simp only [lma_, lmc_, lmn_]; first | done | rfl)) ?_ | refine RPW.by_ Try.func6 (by kernel_rfl) rfl #[.agg #[.int .i64 a0_0, .int .i64 a0_1, .slice A0_2 l0_2.length c0_2, .slice A0_3 l0_3.length c0_3, .slice A0_4 l0_4.length c0_4]] (by rfl) rfl rfl rfl (by first | rfl | (simp only [lma_, lmc_, lmn_]; first | done | rfl)) ?_ | refine RPW.bz_ Try.func6 (by kernel_rfl) rfl #[.agg #[.int .i64 a0_0, .int .i64 a0_1, .slice A0_2 l0_2.length c0_2, .slice A0_3 l0_3.length c0_3, .slice A0_4 l0_4.length c0_4]] (by rfl) rfl rfl rfl (by first | rfl | (simp only [lma_, lmc_, lmn_]; first | done | rfl)) ?_)
     with_reducible refine (bJ_.calls kj16 a0_0 a0_1 _ _ l0_2 _ _ l0_3 _ _ l0_4 t141 t142 t143 t146 t149 _ ?side1 ?side2 ?side3 ?side4 ?side5 ?side6 A41.out).mono ?_
     (case side1 => exact cz (Kd.aF_ HR0_2.out HB.out))
     (case side2 => exact HC0_2.out)
     (case side3 => exact cz (Kd.aF_ HR0_3.out HB.out))
     (case side4 => exact HC0_3.out)
     (case side5 => exact cz (Kd.aF_ HR0_4.out HB.out))
     (case side6 => exact HC0_4.out)
     rintro e w45 ⟨v144, v147, v150, rfl, ho0, ho1, ho2, hb⟩
     refine ⟨_, rfl, ?_⟩
     have n0_ := Aside0.mk (Kd.bc_ (rz HO_134002.out) (Kd.bG_ ho0) hb)
     have n1_ := Aside0.mk (Kd.S_elder' (sz HO_134003.out) (Kd.S_base ho1) hb)
     have n2_ := Aside0.mk (Kd.bc_ (rz HO_134004.out) (Kd.bG_ ho2) hb)
     have n3_ := Aside0.mk (Kd.bq_ (Kd.bL_ ho0 (Kd.R_lt (rz HO_134002.out))) (ae_ (bq)))
     have n4_ := Aside0.mk (Kd.S_lower (Kd.S_new' ho1 (Kd.S_lt (sz HO_134003.out))) (ae_ (bq)))
     have n5_ := Aside0.mk (Kd.bq_ (Kd.bL_ ho2 (Kd.R_lt (rz HO_134004.out))) (ae_ (bq)))
     have n6_ := Aside0.mk (aa_ (kz BK101.out) hb)
     have n7_ := Aside0.mk (aa_ (kz BK102.out) hb)
     have n8_ := Aside0.mk (aa_ (kz BK133.out) hb)
     have n9_ := Aside0.mk (ad_ (bq) hb)
     clear HO_134002
     clear HO_134003
     clear HO_134004
     clear BK101
     clear BK102
     clear BK133
     clear HB
     have HO_134002 := n0_
     have HO_134003 := n1_
     have HO_134004 := n2_
     have HO145 := n3_
     have HO148 := n4_
     have HO151 := n5_
     have BK101 := n6_
     have BK102 := n7_
     have BK133 := n8_
     have HB := n9_
     clear n0_ n1_ n2_ n3_ n4_ n5_ n6_ n7_ n8_ n9_
     (try clear hb)
     (try clear ho0)
     (try clear ho1)
     (try clear ho2)
     obtain ⟨Ao46, co46, eo46⟩ := Kd.bR_ HO145.out
     (first | subst eo46 | (injection eo46 with f1_ f2_ f3_; have f4_ := f1_.symm; have f5_ := f3_.symm; clear f1_ f2_ f3_; subst f4_; subst f5_))
     obtain ⟨Ao47, co47, eo47⟩ := Kd.S_slice HO148.out
     (first | subst eo47 | (injection eo47 with f1_ f2_ f3_; have f4_ := f1_.symm; have f5_ := f3_.symm; clear f1_ f2_ f3_; subst f4_; subst f5_))
     obtain ⟨Ao48, co48, eo48⟩ := Kd.bR_ HO151.out
     (first | subst eo48 | (injection eo48 with f1_ f2_ f3_; have f4_ := f1_.symm; have f5_ := f3_.symm; clear f1_ f2_ f3_; subst f4_; subst f5_))
     refine hK.out _ _ ⟨(ac_ BK133.out 0).trans rfl, (ac_ BK133.out 1).trans rfl, (ac_ BK133.out 2).trans rfl, (ac_ BK133.out 3).trans rfl, (ac_ BK133.out 4).trans rfl, (ac_ BK101.out 0).trans rfl, (ac_ BK101.out 1).trans rfl, (ac_ BK101.out 2).trans rfl, (ac_ BK101.out 3).trans rfl, (ac_ BK101.out 4).trans rfl⟩ (fun hHeld => ?_)
     clear hK K
     refine norm_ (a' := ?_) ?_ ?_
     rotate_left
     ·show Act.put _ (some 43) _ = _
      simp only [Act.put, lsa_, ls0_, ls1_, i64_w, i32_w]
      rfl
     refine one_ (i := 3) (N := some 44) #[t_,t_,t_,t_,f_] rfl rfl (by kernel_rfl) (by decide) (fun K hK => ?_)
     (first | refine goes_ Try.func9 (by kernel_rfl) rfl #[.agg #[.int .i64 t122, .int .i64 t123, .slice Ao32 t124.length co32, .slice Ao33 t127.length co33, .slice Ao34 t130.length co34], .agg #[.int .i64 t141, .int .i64 t142, .slice Ao46 t143.length co46, .slice Ao47 t146.length co47, .slice Ao48 t149.length co48]] (by rfl) rfl rfl (by first | rfl | (simp only [lma_, lmc_, lmn_]; first | done | rfl)) ?_ | refine RPW.by_ Try.func9 (by kernel_rfl) rfl #[.agg #[.int .i64 t122, .int .i64 t123, .slice Ao32 t124.length co32, .slice Ao33 t127.length co33, .slice Ao34 t130.length co34], .agg #[.int .i64 t141, .int .i64 t142, .slice Ao46 t143.length co46, .slice Ao47 t146.length co47, .slice Ao48 t149.length co48]] (by rfl) rfl rfl rfl (by first | rfl | (simp only [lma_, lmc_, lmn_]; first | done | rfl)) ?_ | refine RPW.bz_ Try.func9 (by kernel_rfl) rfl #[.agg #[.int .i64 t122, .int .i64 t123, .slice Ao32 t124.length co32, .slice Ao33 t127.length co33, .slice Ao34 t130.length co34], .agg #[.int .i64 t141, .int .i64 t142, .slice Ao46 t143.length co46, .slice Ao47 t146.length co47, .slice Ao48 t149.length co48]] (by rfl) rfl rfl rfl (by first | rfl | (simp only [lma_, lmc_, lmn_]; first | done | rfl)) ?_)
     with_reducible refine (cA_.calls kj16 t122 t123 _ _ t124 _ _ t127 _ _ t130 t141 t142 _ _ t143 _ _ t146 _ _ t149 t152 _ ?side1 ?side2 ?side3 ?side4 ?side5 ?side6 ?side7 ?side8 ?side9 ?side10 ?side11 ?side12 A42.out).mono ?_
     (case side1 => exact cz (Kd.aV_ HO_134002.out).2.2)
     (case side2 => exact (Kd.aV_ HO_134002.out).2.1)
     (case side3 => exact cz (Kd.ds_ HO_134003.out).2.2)
     (case side4 => exact (Kd.ds_ HO_134003.out).2.1)
     (case side5 => exact cz (Kd.aV_ HO_134004.out).2.2)
     (case side6 => exact (Kd.aV_ HO_134004.out).2.1)
     (case side7 => exact cz (Kd.aV_ HO145.out).2.2)
     (case side8 => exact (Kd.aV_ HO145.out).2.1)
     (case side9 => exact cz (Kd.ds_ HO148.out).2.2)
     (case side10 => exact (Kd.ds_ HO148.out).2.1)
     (case side11 => exact cz (Kd.aV_ HO151.out).2.2)
     (case side12 => exact (Kd.aV_ HO151.out).2.1)
     rintro e w49 ⟨rfl, hb⟩
     refine ⟨_, rfl, ?_⟩
     have n0_ := Aside0.mk (Kd.bM_ (rz HO_134002.out) hb)
     have n1_ := Aside0.mk (Kd.do_ (sz HO_134003.out) hb)
     have n2_ := Aside0.mk (Kd.bM_ (rz HO_134004.out) hb)
     have n3_ := Aside0.mk (Kd.bM_ (rz HO145.out) hb)
     have n4_ := Aside0.mk (Kd.do_ (sz HO148.out) hb)
     have n5_ := Aside0.mk (Kd.bM_ (rz HO151.out) hb)
     have n6_ := Aside0.mk (aa_ (kz BK101.out) hb)
     have n7_ := Aside0.mk (aa_ (kz BK102.out) hb)
     have n8_ := Aside0.mk (aa_ (kz BK133.out) hb)
     have n9_ := Aside0.mk (ad_ (bq) hb)
     clear HO_134002
     clear HO_134003
     clear HO_134004
     clear HO145
     clear HO148
     clear HO151
     clear BK101
     clear BK102
     clear BK133
     clear HB
     have HO_134002 := n0_
     have HO_134003 := n1_
     have HO_134004 := n2_
     have HO145 := n3_
     have HO148 := n4_
     have HO151 := n5_
     have BK101 := n6_
     have BK102 := n7_
     have BK133 := n8_
     have HB := n9_
     clear n0_ n1_ n2_ n3_ n4_ n5_ n6_ n7_ n8_ n9_
     (try clear hb)
     refine hK.out _ _ ⟨(ac_ BK133.out 0).trans rfl, (ac_ BK133.out 1).trans rfl, (ac_ BK133.out 2).trans rfl, (ac_ BK133.out 3).trans rfl, (ac_ BK133.out 4).trans rfl, (ac_ BK101.out 0).trans rfl, (ac_ BK101.out 1).trans rfl, (ac_ BK101.out 2).trans rfl, (ac_ BK101.out 3).trans rfl, (ac_ BK101.out 4).trans rfl⟩ (fun hHeld => ?_)
     clear hK K
     refine norm_ (a' := ?_) ?_ ?_
     rotate_left
     ·show Act.put _ (some 44) _ = _
      simp only [Act.put, lsa_, ls0_, ls1_, i64_w, i32_w]
      rfl
     refine pure_ (i := 4) (N := some 45) (v := ?_) (a' := ?_) #[t_,t_,t_,t_,t_] rfl rfl (by kernel_rfl) (fun _ _ _ h => h) (Or.inl ⟨by rfl, ?_⟩) ?_ ?_
     rotate_left
     ·intro w'
      go_simp
      with_reducible rfl
     rotate_left
     ·simp only [Act.put, lsa_, ls0_, ls1_, i64_w, i32_w]
      rfl
     refine done_ (by kernel_rfl) ?_
     go_upto_if 45 with (fail)
     have H := HC43.out
     clear HC43
     by_cases c50 : t152 = true
     rotate_left
     ·replace c50 := Bool.eq_false_iff.mpr c50
      subst c50
      have H1 : (some false) = some r := by rw [if_neg (show ¬ (false = true) by decide)] at H; exact H
      clear H
      have H := H1
      clear H1
      obtain rfl := Option.some.inj H
      go_wp2
      go_ret
      exact ⟨by first | rfl | (simp [*, ah_, ai_] <;> rfl), bq⟩
     subst c50
     have H1 : (some true) = some r := by rw [if_pos rfl] at H; exact H
     clear H
     have H := H1
     clear H1
     obtain rfl := Option.some.inj H
     go_wp2
     go_ret
     exact ⟨by first | rfl | (simp [*, ah_, ai_] <;> rfl), bq⟩
    subst c40
    have H1 : (some false) = some r := by rw [if_pos rfl] at H; exact H
    clear H
    have H := H1
    clear H1
    obtain rfl := Option.some.inj H
    go_wp2
    go_ret
    exact ⟨by first | rfl | (simp [*, ah_, ai_] <;> rfl), bq⟩
 rw [if_pos c10] at H
 have c10b0 : decide (t103 < 0) = true := decide_eq_true c10
 clear c10
 (first | rw [c10b0] | (simp only [i64_w, i32_w]; rw [c10b0]) | (simp only [c10b1, Bool.not_true, Bool.not_false]) | (simp only [c10b0, Bool.not_true, Bool.not_false]) | skip)
 obtain rfl := Option.some.inj H
 go_wp2
 go_ret
 exact ⟨by first | rfl | (simp [*, ah_, ai_] <;> rfl), bq⟩
def ap_.Pure : Prop := ∀ (x0 : S28) (x1 : S30), W28 x0 → W30 x1 → ∃ k, ap_.f k x0.f0.f0 x0.f0.f1 x0.f0.f2 x0.f0.f3 x0.f1 x1.f0 x1.f1 x1.f2 x1.f3 x1.f4 = some true
end Go.Proofs.Ytpjhnchfhghlcaa.Q
namespace Go.Proofs.Ytpjhnchfhghlcaa.Q
open Go.RowKit Go.Proofs.YtpjhnchfhghlcaaW.PrintWords Go.Proofs.YtpjhnchfhghlcaaW.PrintLast Go.Proofs.YtpjhnchfhghlcaaW.PrintMore
theorem wr64 {x : Int} (h0 : -9223372036854775808 ≤ x) (h1 : x < 9223372036854775808) : wrap64 x = x := by unfold wrap64; omega
theorem wr64s (i : Nat) (h : (i : Int) < 9223372036854775807) : wrap64 ((i : Int) + 1) = ((i + 1 : Nat) : Int) := by rw [wr64 (by omega) (by omega)]; omega
theorem aK_ {α : Type} {g : Nat → Option α} {r : α} (h : Ev (fun k => g (k + 1)) r) : Ev g r := by
 obtain ⟨K, hK⟩ := h
 refine ⟨K + 1, fun k hk => ?_⟩
 obtain ⟨m, rfl⟩ : ∃ m, k = m + 1 := ⟨k - 1, by omega⟩
 exact hK m (by omega)
theorem Ev_t {α : Type} {c : Prop} [Decidable c] {f g : Nat → Option α} {r : α} (h : c) (k : Ev f r) : Ev (fun n => if c then f n else g n) r := by
 obtain ⟨K, hK⟩ := k
 exact ⟨K, fun n hn => (if_pos h).trans (hK n hn)⟩
theorem Ev_f {α : Type} {c : Prop} [Decidable c] {f g : Nat → Option α} {r : α} (h : ¬ c) (k : Ev g r) : Ev (fun n => if c then f n else g n) r := by
 obtain ⟨K, hK⟩ := k
 exact ⟨K, fun n hn => (if_neg h).trans (hK n hn)⟩
theorem Ev_b {α β : Type} {g : Nat → Option α} {f : Nat → α → Option β} {a : α} {r : β} (h : Ev g a) (k : Ev (fun n => f n a) r) : Ev (fun n => (g n).bind (fun x => f n x)) r := Ev.bind h k
theorem Ev_s {α β : Type} {a : α} {f : Nat → α → Option β} {r : β} (k : Ev (fun n => f n a) r) : Ev (fun n => (some a).bind (fun x => f n x)) r := k
theorem Ev_n {α : Type} {a r : α} (h : a = r) : Ev (fun _ => some a) r := ⟨0, fun _ _ => by rw [h]⟩
theorem Ev_c {α : Type} {o : Option α} {r : α} (h : o = some r) : Ev (fun _ => o) r := ⟨0, fun _ _ => h⟩
theorem Ev_at {α : Type} {g : Nat → Option α} {r r' : α} (h : Ev g r) (e : r = r') : Ev g r' := e ▸ h
def cut (c s : Int) : Int := if s ≤ c then c - s else -1
theorem cW_ {c s : Int} (h : s ≤ c) : cut c s = c - s := by unfold cut; rw [if_pos h]
theorem cs_ {c s : Int} (h : ¬ s ≤ c) : cut c s = -1 := by unfold cut; rw [if_neg h]
theorem set_take' {α : Type} (xs : List α) (i : Nat) (m : α) (h : i < xs.length) : (xs.set i m).take (i + 1) = xs.take i ++ [m] := by
 rw [List.take_succ_eq_append_getElem (by simpa using h)]
 congr 1
 ·rw [List.take_set_of_le (Nat.le_refl _)]
 ·simp
theorem getD_in {α : Type} (l : List α) (z : α) (i : Nat) (h : i < l.length) : l.getD ((i : Int).toNat) z = l[i] := by simp [List.getD, h]
theorem sum_le {α : Type} (f : α → Nat) : ∀ (l : List α) (x : α), x ∈ l → f x ≤ (l.map f).sum
 | a :: l, x, h => by
  rw [List.map_cons, List.sum_cons]
  rcases List.mem_cons.1 h with rfl | h
  ·omega
  ·have := sum_le f l x h; omega
theorem eqInt64S_ev' (l : List Int) (hl : (l.length : Int) ≤ 1000000000000) : Ev (fun k => bp_.f k l l) true := by
 have go : ∀ (q p : List Int) (i : Nat), p.length = i → (i : Int) + q.length ≤ 1000000000000 → Ev (fun k => bp_.l0 k (p ++ q) (p ++ q) i) true := by
  intro q
  induction q with
  | nil =>
   intro p i q1 q2
   refine aK_ ?_
   simp only [bp_.l0]
   exact Ev_f (by simp; omega) (Ev_n rfl)
  | cons x q ih =>
   intro p i q1 q2
   simp only [List.length_cons] at q2
   refine aK_ ?_
   simp only [bp_.l0]
   refine Ev_t (by simp; omega) (Ev_t (by omega) (Ev_t (by simp; omega) (Ev_t True.intro ?_)))
   rw [wr64s i (by omega)]
   have := ih (p ++ [x]) (i + 1) (by simp; omega) (by omega)
   rw [List.append_assoc, List.singleton_append] at this
   exact this
 simp only [bp_.f]
 exact Ev_t True.intro (go l [] 0 rfl (by simpa using hl))
theorem eq_Int64S (l : List Int) (hl : (l.length : Int) ≤ 1048576) : Ev (fun k => bp_.f k l l) true := eqInt64S_ev' l (by omega)
theorem sz_Int64S (l : List Int) (hl : l.length ≤ maxLen) (c : Int) (h0 : 0 ≤ c) (h1 : c ≤ 1048576) : Ev (fun _ => cH_.f l c) (cut c (l.length : Nat)) := by
 have hM : maxLen = 9223372036854775807 := by decide
 rw [hM] at hl
 simp only [cH_.f]
 rw [wr64 (x := c - (l.length : Int)) (by omega) (by omega)]
 by_cases g : c - (l.length : Int) < 0
 rotate_left
 ·rw [cW_ (by omega)]; exact Ev_f g (Ev_n rfl)
 rw [cs_ (by omega)]; exact Ev_t g (Ev_n rfl)
theorem to_Int64S (l : List Int) (hl : (l.length : Int) ≤ 1048576) : Ev (fun k => bk_.f k l) l := by
 have go : ∀ (d i : Nat) (xs : List Int), i + d = l.length → xs.length = l.length → xs.take i = l.take i → Ev (fun k => bk_.l0 k l xs i) l := by
  intro d
  induction d with
  | zero =>
   intro i xs h1 h2 h3
   refine aK_ ?_
   simp only [bk_.l0]
   refine Ev_f (by omega) (Ev_n ?_)
   rw [List.take_of_length_le (by omega), List.take_of_length_le (by omega)] at h3
   exact h3
  | succ d ih =>
   intro i xs h1 h2 h3
   refine aK_ ?_
   simp only [bk_.l0]
   have hi : i < l.length := by omega
   have hr : rd l (i : Int) = l[i] := by unfold rd; exact getD_in l _ i hi
   refine Ev_t (by omega) (Ev_t (by omega) (Ev_t (by omega) ?_))
   rw [wr64s i (by omega), hr, Int.toNat_natCast]
   refine ih (i + 1) _ (by omega) (by simp [h2]) ?_
   rw [set_take' xs i _ (by omega), h3, List.take_succ_eq_append_getElem hi]
 simp only [bk_.f]
 refine Ev_t (by omega) (Ev_t (by simpa using (by omega : l.length ≤ 35184372088832)) ?_)
 exact go l.length 0 _ (by omega) (by simp) (by simp)
end Go.Proofs.Ytpjhnchfhghlcaa.Q
