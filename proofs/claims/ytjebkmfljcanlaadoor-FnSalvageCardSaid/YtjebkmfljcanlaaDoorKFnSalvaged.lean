/- a byte of a line that changes costs the block of this line alone This text holds the functions' walks and the words for them. -/
import Derived.Test.YtjebkmfljcanlaaDoorKFnSalvagea
import Derived.Test.YtjebkmfljcanlaaDoorKFnSalvageb
import Derived.Test.YtjebkmfljcanlaaDoorKFnSalvagec
set_option linter.unusedVariables false
set_option linter.unusedSimpArgs false
namespace Go.Proofs.YtjebkmfljcanlaaDoor.Q
open Go.RowKit Go.Proofs.YtjebkmfljcanlaaDoorW.PrintWords Go.Proofs.YtjebkmfljcanlaaDoorW.PrintLast Go.Proofs.YtjebkmfljcanlaaDoorW.PrintMore
attribute [local go_sem] aM_ aN_ be_ bc_ aC_ aD_ aL_ aK_
def bh_.f (s0_0 : List Int) (s0_1 : Int) (s0_2 : Int) : Option (ByteArray × Int × Int × Int × Int) := (aj_.f s0_0 s0_1 s0_2 10).bind fun bt102 => ((cG_.f).bind fun t105 => (if 0 ≤ bt102.1 then (if bt102.1 < (t105.length : Int) then (if 0 < ((rd_L4 t105 bt102.1).length : Int) then ((aj_.f s0_0 bt102.2.1 bt102.2.2 21).bind fun bt110 => ((cn_.f).bind fun t113 => (if bt102.1 < (t113.length : Int) then ((cr_.f 0 (wrap64 ((wrap64 ((rd (rd_L4 t105 bt102.1) 0) + bt110.1)) - 10))).bind fun t117 => ((bS_.f 100 t117).bind fun t118 => ((aj_.f s0_0 bt110.2.1 bt110.2.2 180).bind fun bt120 => ((bU_.f s0_0 bt120.2.1 bt120.2.2 (([bt120.1, bt120.1, 0, 90, 45] : List Int))).bind fun bt126 => (some (rdOf ByteArray.empty t113 bt102.1, t118, bt126.1, bt126.2.1, bt126.2.2)))))) else (none)))) else (none)) else (none)) else (none)))
def bh_.T2 : Bool × List (List Nat × List Nat) := (true, [([], []), ([], []), ([0, 1], [0, 1]), ([2], [2]), ([3], [3]), ([4], [4]), ([], []), ([6, 0], [6]), ([5, 7], [5, 7]), ([8], [8]), ([9, 7, 0, 1, 2, 3, 4, 5, 6, 7, 8, 9], [9])])
def bh_.B2 : List Nat := [0, 0, 3, 7, 15, 31, 0, 65, 255, 511, 1023]
theorem bh_.tab2 : rtab .any (opsOf Tryd.f97 2) = bh_.T2 := by kernel_rfl
theorem bh_.bits2 : cE_ bh_.T2.2 bh_.B2 = true := by kernel_rfl
def bh_.T3 : Bool × List (List Nat × List Nat) := (true, [([], []), ([], []), ([0, 1], [0, 1]), ([2], [2]), ([], []), ([4, 0], [4]), ([5, 5], [5]), ([3, 6], [3, 6]), ([], []), ([8, 7, 6, 0, 1, 2, 3, 4, 5, 6, 7, 8], [7, 8])])
def bh_.B3 : List Nat := [0, 0, 3, 7, 0, 17, 49, 127, 0, 511]
theorem bh_.tab3 : rtab .any (opsOf Tryd.f97 3) = bh_.T3 := by kernel_rfl
theorem bh_.bits3 : cE_ bh_.T3.2 bh_.B3 = true := by kernel_rfl
set_option maxHeartbeats 8000000 in
set_option maxRecDepth 100000 in
theorem bh_.calls (g : Nat) (s0_0 : List Int) (s0_1 : Int) (s0_2 : Int) (r1 : ByteArray) (r2 : Int) (r3 : Int) (r4 : Int) (r5 : Int) (w0 w : World) (hI : IsS81 w0 w g s0_0 s0_1 s0_2) (hB : Below w0.heap.size w0 w) (h : bh_.f s0_0 s0_1 s0_2 = some (r1, r2, r3, r4, r5)) :
  Calls Tryd.prog 97 #[.pointer (some ⟨g, 0, none⟩)] w fun e w' => e = .returned (.agg #[.string r1, .int .i64 r2, .int .i64 r3]) ∧ IsS81 w0 w' g s0_0 r4 r5 ∧ Below w0.heap.size w0 w' ∧ ac_ w w' g none := by
 have hu94 := Tryd.underlying94
 have HI0 := Aside0.mk hI
 have HK := Aside0.mk (ac_.refl w g none)
 have HL := Aside0.mk hB.size
 clear hI
 have HW0 := Aside0.mk hB.size
 have HB := Aside0.mk hB
 clear hB
 have H : ((aj_.f s0_0 s0_1 s0_2 10).bind fun bt102 => ((cG_.f).bind fun t105 => (if 0 ≤ bt102.1 then (if bt102.1 < (t105.length : Int) then (if 0 < ((rd_L4 t105 bt102.1).length : Int) then ((aj_.f s0_0 bt102.2.1 bt102.2.2 21).bind fun bt110 => ((cn_.f).bind fun t113 => (if bt102.1 < (t113.length : Int) then ((cr_.f 0 (wrap64 ((wrap64 ((rd (rd_L4 t105 bt102.1) 0) + bt110.1)) - 10))).bind fun t117 => ((bS_.f 100 t117).bind fun t118 => ((aj_.f s0_0 bt110.2.1 bt110.2.2 180).bind fun bt120 => ((bU_.f s0_0 bt120.2.1 bt120.2.2 (([bt120.1, bt120.1, 0, 90, 45] : List Int))).bind fun bt126 => (some (rdOf ByteArray.empty t113 bt102.1, t118, bt126.1, bt126.2.1, bt126.2.2)))))) else (none)))) else (none)) else (none)) else (none)))) = some (r1, r2, r3, r4, r5) := h
 clear h
 replace H := Option.bind_eq_some_iff.mp H
 obtain ⟨⟨t102, t103, t104⟩, A20, H⟩ := H
 (try dsimp only at H)
 have A2 := Aside0.mk A20
 clear A20
 replace H := Option.bind_eq_some_iff.mp H
 obtain ⟨t105, A30, H⟩ := H
 (try dsimp only at H)
 have A3 := Aside0.mk A30
 clear A30
 by_cases c4 : 0 ≤ t102
 rotate_left
 ·rw [if_neg c4] at H
  exact absurd H (by simp)
 rw [if_pos c4] at H
 have c4b0 : decide (0 ≤ t102) = true := decide_eq_true c4
 clear c4
 by_cases c5 : t102 < (t105.length : Int)
 rotate_left
 ·rw [if_neg c5] at H
  exact absurd H (by simp)
 rw [if_pos c5] at H
 have c5b0 : decide (t102 < (t105.length : Int)) = true := decide_eq_true c5
 clear c5
 by_cases c6 : 0 < ((rd_L4 t105 t102).length : Int)
 rotate_left
 ·rw [if_neg c6] at H
  exact absurd H (by simp)
 rw [if_pos c6] at H
 have c6b0 : decide (0 < ((rd_L4 t105 t102).length : Int)) = true := decide_eq_true c6
 have c6b1 : decide (0 < (rd_L4 t105 t102).length) = true := decide_eq_true (by omega)
 clear c6
 replace H := Option.bind_eq_some_iff.mp H
 obtain ⟨⟨t110, t111, t112⟩, A70, H⟩ := H
 (try dsimp only at H)
 have A7 := Aside0.mk A70
 clear A70
 replace H := Option.bind_eq_some_iff.mp H
 obtain ⟨t113, A80, H⟩ := H
 (try dsimp only at H)
 have A8 := Aside0.mk A80
 clear A80
 by_cases c9 : t102 < (t113.length : Int)
 rotate_left
 ·rw [if_neg c9] at H
  exact absurd H (by simp)
 rw [if_pos c9] at H
 have c9b0 : decide (t102 < (t113.length : Int)) = true := decide_eq_true c9
 clear c9
 replace H := Option.bind_eq_some_iff.mp H
 obtain ⟨t117, A100, H⟩ := H
 (try dsimp only at H)
 have A10 := Aside0.mk A100
 clear A100
 replace H := Option.bind_eq_some_iff.mp H
 obtain ⟨t118, A110, H⟩ := H
 (try dsimp only at H)
 have A11 := Aside0.mk A110
 clear A110
 replace H := Option.bind_eq_some_iff.mp H
 obtain ⟨⟨t120, t121, t122⟩, A120, H⟩ := H
 (try dsimp only at H)
 have A12 := Aside0.mk A120
 clear A120
 obtain ⟨y123, hy123⟩ : ∃ y_ : List Int, y_ = (([t120, t120, 0, 90, 45] : List Int)) := ⟨_, rfl⟩
 replace H : ((bU_.f s0_0 t121 t122 y123).bind fun bt126 => (some (rdOf ByteArray.empty t113 t102, t118, bt126.1, bt126.2.1, bt126.2.2))) = some (r1, r2, r3, r4, r5) := by first | (rw [hy123]; with_reducible exact H) | (have H2_ := (Option.bind_some _ _).symm.trans H; rw [hy123]; with_reducible exact H2_) | (have H2_ := (Option.bind_some _ _).symm.trans H; with_reducible exact H2_) | with_reducible exact H | (rw [hy123]; exact H) | exact H
 have Ny123 := Aside0.mk hy123
 clear hy123
 replace H := Option.bind_eq_some_iff.mp H
 obtain ⟨⟨t126, t127, t128⟩, A130, H⟩ := H
 (try dsimp only at H)
 have A13 := Aside0.mk A130
 clear A130
 simp only [Option.some.injEq, Prod.mk.injEq] at H
 obtain ⟨rfl, rfl, rfl, rfl, rfl⟩ := H
 go_enter Tryd.func97, Tryd.ntmps97
 try go_wp2_with (first | ((with_reducible refine aS_ (N := 2) rfl ?_); refine bB_ ?hg (N := 2) ?hd (cs := #[.string (⟨#[]⟩ : ByteArray), .int .i64 0, .int .i64 0]) (t := 94) ?hr ?_; (case hd => rfl); (case hg => rfl); (case hr => (go_simp; try rfl)); intro gb101 hg w14 hbox hb; replace HB := Aside0.mk (ah_ (by repeat (first | (with_reducible first | exact HB.out | apply bA_ | apply bN_ | apply bD_ | refine ab_ ?_ (IsS81.ge HI0.out)) | exact HB.out)) hb); have BK101 := Aside0.mk (hbox); have GW101 := Aside0.mk ((by rw [hg]; exact (aZ_ (w := w) (g := g) (row := none) (by repeat (first | (with_reducible first | exact HK.out | apply ac_.set_ | apply ad_ | apply af_ | apply ae_) | exact HK.out))) : w.heap.size ≤ gb101)); have GE101 := Aside0.mk ((Nat.le_trans HW0.out (by rw [hg]; exact (aZ_ (w := w) (g := g) (row := none) (by repeat (first | (with_reducible first | exact HK.out | apply ac_.set_ | apply ad_ | apply af_ | apply ae_) | exact HK.out))) : w.heap.size ≤ gb101) : w0.heap.size ≤ gb101)); replace HK := Aside0.mk (ac_.trans (by repeat (first | (with_reducible first | exact HK.out | apply ac_.set_ | apply ad_ | apply af_ | apply ae_) | exact HK.out)) (ac_.of_below hb g none) (.inl rfl)); have NB0_101 := Aside0.mk ((by rw [hg]; exact Nat.ne_of_lt (IsS81.lt (show IsS81 w0 _ g s0_0 s0_1 s0_2 from by repeat (first | (with_reducible first | exact HI0.out | apply IsS81.alloc | apply IsS81.drewN | apply IsS81.drew | apply IsS81.set_1 | apply IsS81.set_2) | exact HI0.out))) : g ≠ gb101)); have NB101_0 := Aside0.mk ((by rw [hg]; exact Nat.ne_of_gt (IsS81.lt (show IsS81 w0 _ g s0_0 s0_1 s0_2 from by repeat (first | (with_reducible first | exact HI0.out | apply IsS81.alloc | apply IsS81.drewN | apply IsS81.drew | apply IsS81.set_1 | apply IsS81.set_2) | exact HI0.out))) : gb101 ≠ g)); replace HI0 := Aside0.mk (IsS81.below (by repeat (first | (with_reducible first | exact HI0.out | apply IsS81.alloc | apply IsS81.drewN | apply IsS81.drew | apply IsS81.set_1 | apply IsS81.set_2) | exact HI0.out)) hb); clear hb hbox hg) | ((with_reducible refine al_ (f := 65) rfl ?_); refine bf_ (some 8) rfl rfl Tryd.func65 (by kernel_rfl) rfl #[.pointer (some ⟨g, 0, none⟩), .int .i64 10] rfl (by first | rfl | (simp only [lma_, lmc_, lmn_]; first | done | rfl)) ?_; (with_reducible refine (aj_.calls g s0_0 s0_1 s0_2 10 t102 t103 t104 w0 _ ?side1 ?side2 A2.out).mono ?_); (case side1 => repeat (first | (with_reducible first | exact HI0.out | apply IsS81.alloc | apply IsS81.drewN | apply IsS81.drew | apply IsS81.set_1 | apply IsS81.set_2 | refine IsS81.far ?_ NB0_101.out _) | exact HI0.out)); (case side2 => repeat (first | (with_reducible first | exact HB.out | apply bA_ | apply bN_ | apply bD_ | refine ab_ ?_ (IsS81.ge HI0.out) | refine ab_ ?_ GE101.out) | exact HB.out)); rintro e w15 ⟨rfl, hi, hb, hk⟩; refine ⟨_, rfl, ?_⟩; replace BK101 := Aside0.mk (ac_.blk hk (g' := gb101) (o := .cells #[.string (⟨#[]⟩ : ByteArray), .int .i64 0, .int .i64 0] 94 (0, 0)) (kz BK101.out) NB101_0.out (by simp)); replace HK := Aside0.mk (ac_.trans (by repeat (first | (with_reducible first | exact HK.out | apply ac_.set_ | apply ad_ | apply af_ | apply ae_ | refine ag_ ?_ GW101.out _) | exact HK.out)) hk (.inl rfl)); replace HB := Aside0.mk (hb); replace HI0 := Aside0.mk (hi); (try clear hb)))
 have n0_ := Aside0.mk (aX_ BK101.out)
 have n1_ := Aside0.mk (IsS81.drew HI0.out)
 have n2_ := Aside0.mk (af_ HK.out)
 have n3_ := Aside0.mk (bD_ HB.out)
 clear BK101
 clear HI0
 clear HK
 clear HB
 have BK101 := n0_
 have HI0 := n1_
 have HK := n2_
 have HB := n3_
 clear n0_ n1_ n2_ n3_
 refine cW_ (n := 11) (S := fun w' => True) (ds := []) #[f_,f_,f_,f_,f_,f_,f_,f_,f_,f_,f_] (by kernel_rfl) rfl rfl trivial (fun hHeld => ?_); refine ce_ bh_.tab2 bh_.bits2 (fun HT_ HW_ => ?_)
 generalize w15.drew = w16 at BK101 HI0 HK HB hHeld ⊢
 refine pu 1 10 #[f_,t_,f_,f_,f_,f_,f_,f_,f_,f_,f_] HT_ ?_
 refine pu 6 15 #[f_,t_,f_,f_,f_,f_,t_,f_,f_,f_,f_] HT_ ?_
 refine one_ (i := 0) (N := some 9) #[t_,t_,f_,f_,f_,f_,t_,f_,f_,f_,f_] rfl rfl (bZ_ HT_.out (by kernel_rfl)) (by decide) (fun K hK => ?_)
 (first | refine goes_ Tryd.func111 (by kernel_rfl) rfl #[] (by rfl) rfl rfl (by first | rfl | (simp only [lma_, lmc_, lmn_]; first | done | rfl)) ?_ | refine RPW.cj_ Tryd.func111 (by kernel_rfl) rfl #[] (by rfl) rfl rfl rfl (by first | rfl | (simp only [lma_, lmc_, lmn_]; first | done | rfl)) ?_ | refine RPW.ci_ Tryd.func111 (by kernel_rfl) rfl #[] (by rfl) rfl rfl rfl (by first | rfl | (simp only [lma_, lmc_, lmn_]; first | done | rfl)) ?_)
 with_reducible refine (cG_.calls  t105 _ A3.out).mono ?_
 rintro e w17 ⟨v106, rfl, ho0, hb⟩
 refine ⟨_, rfl, ?_⟩
 have n0_ := Aside0.mk (Kd.N_lower (Kd.cQ_ (ok' := fun k_ => k_ ≠ gb101 ∧ k_ ≠ g) ho0 (fun k_ hk_ => ⟨(Kd.cz_ (g := gb101) (o := .cells #[.string (⟨#[]⟩ : ByteArray), .int .i64 0, .int .i64 0] 94 (0, 0)) (kz BK101.out) k_ hk_), (IsS81.fresh (by repeat (first | (with_reducible first | exact HI0.out | apply IsS81.alloc | apply IsS81.drewN | apply IsS81.drew | apply IsS81.set_1 | apply IsS81.set_2 | refine IsS81.far ?_ NB0_101.out _) | exact HI0.out)) k_ hk_)⟩)) (aZ_ (w := w) (g := g) (row := none) (by repeat (first | (with_reducible first | exact HK.out | apply ac_.set_ | apply ad_ | apply af_ | apply ae_ | refine ag_ ?_ GW101.out _) | exact HK.out))))
 have n1_ := Aside0.mk (IsS81.below (by repeat (first | (with_reducible first | exact HI0.out | apply IsS81.alloc | apply IsS81.drewN | apply IsS81.drew | apply IsS81.set_1 | apply IsS81.set_2 | refine IsS81.far ?_ NB0_101.out _) | exact HI0.out)) hb)
 have n2_ := Aside0.mk (az_ (kz BK101.out) hb)
 have n3_ := Aside0.mk (ac_.trans (by repeat (first | (with_reducible first | exact HK.out | apply ac_.set_ | apply ad_ | apply af_ | apply ae_ | refine ag_ ?_ GW101.out _) | exact HK.out)) (ac_.of_below hb g none) (.inl rfl))
 have n4_ := Aside0.mk (ah_ (by repeat (first | (with_reducible first | exact HB.out | apply bA_ | apply bN_ | apply bD_ | refine ab_ ?_ (IsS81.ge HI0.out) | refine ab_ ?_ GE101.out) | exact HB.out)) hb)
 clear HI0
 clear BK101
 clear HK
 clear HB
 have HO107 := n0_
 have HI0 := n1_
 have BK101 := n2_
 have HK := n3_
 have HB := n4_
 clear n0_ n1_ n2_ n3_ n4_
 (try clear hb)
 (try clear ho0)
 obtain ⟨Ao18, co18, eo18⟩ := Kd.N_slice HO107.out
 (first | subst eo18 | (injection eo18 with f1_ f2_ f3_; have f4_ := f1_.symm; have f5_ := f3_.symm; clear f1_ f2_ f3_; subst f4_; subst f5_))
 have p108 : 0 ≤ (t102 : Int) := of_decide_eq_true (by assumption)
 have q108 : t102 < (t105.length : Int) := of_decide_eq_true (by assumption)
 obtain ⟨ad108, A108_0, c108_0, e108, hx108_0, hl108_0, hi108_0⟩ := at_L4 (Kd.N_reads' HO107.out).2.2 t102 p108 q108
 cases e108
 obtain ⟨ce108, hce108, hMe108, hcc108⟩ := Kd.N_get HO107.out [] t102 p108 (by first | exact q108 | exact of_decide_eq_true (by assumption) | (have e_ := (Kd.N_reads' HO107.out).1; omega))
 obtain ⟨ua108_0, uc108_0, rfl, ul108_0, ge108_0⟩ := Kd.FK_slice_open hMe108
 have hv108_0 := hcc108 0 _ rfl
 rw [Nat.add_zero, show ((Kd.slice 2 (Kd.int .i64))).sz = 1 from rfl, Nat.mul_one] at hv108_0
 replace hv108_0 := Option.some.inj (hv108_0.symm.trans hx108_0)
 injection hv108_0 with hva_ hvn_ hvc_
 rw [hva_] at ge108_0
 rw [hvc_] at ul108_0
 have HL108_0 := Aside0.mk (show Kd.V (Kd.int .i64) 2 _ w.heap.size _ _ (rd_L4 t105 t102) from Kd.V_mk ul108_0 ge108_0)
 clear hva_ hvn_ hvc_ ge108_0 ul108_0
 clear hcc108 hce108
 have HR108_0 := Aside0.mk hi108_0
 have HC108_0 := Aside0.mk hl108_0
 clear hi108_0 hl108_0
 replace p108 := eq_true p108
 replace q108 := eq_true q108
 have p109 : 0 ≤ (0 : Int) := (by omega)
 have q109 : 0 < ((rd_L4 t105 t102).length : Int) := of_decide_eq_true (by assumption)
 obtain ⟨ad109, e109, hx109_0⟩ := Kd.at_int (by repeat (first | (with_reducible exact HR108_0.out) | (with_reducible first | refine Kd.C_alloc ?_ _ | refine Kd.C_drewN ?_ _ | refine Kd.C_drew ?_) | exact HR108_0.out)) 0 p109 q109
 cases e109
 have qi109 : (0 < (rd_L4 t105 t102).length) = True := eq_true (by omega)
 (try rw [show ((0 : Int)).toNat = 0 from rfl] at hx109_0)
 (try rw [Addr.add_zero'] at hx109_0)
 replace p109 := eq_true p109
 replace q109 := eq_true q109
 refine hK.out _ _ trivial (fun hHeld => ?_)
 clear hK K
 refine norm_ (a' := ?_) ?_ ?_
 rotate_left
 ·show Act.put _ (some 9) _ = _
  simp only [Act.put, lsa_, ls0_, ls1_, i64_w, i32_w]
  rfl
 refine RPW.grow_ (S' := fun w' => w'.cell? (ad108.add (t102).toNat) = some (.slice (some ad109) (rd_L4 t105 t102).length c108_0) ∧ w'.cell? ad109 = some (.int .i64 (rd (rd_L4 t105 t102) 0))) (fun _ h_ => trivial) ⟨hx108_0, hx109_0⟩ (fun hHeld => ?_)
 refine pu 2 11 #[t_,t_,t_,f_,f_,f_,t_,f_,f_,f_,f_] HT_ ?_
 refine tk 3 12 #[t_,t_,t_,t_,f_,f_,t_,f_,f_,f_,f_] HT_ HW_ hHeld ?_ (hv := by rintro w' ⟨s0, s1⟩; go_simp; with_reducible rfl)
 refine pu 4 13 #[t_,t_,t_,t_,t_,f_,t_,f_,f_,f_,f_] HT_ ?_
 refine tk 5 14 #[t_,t_,t_,t_,t_,t_,t_,f_,f_,f_,f_] HT_ HW_ hHeld ?_ (hv := by rintro w' ⟨s0, s1⟩; go_simp; with_reducible rfl)
 refine one_ (i := 7) (N := some 16) #[t_,t_,t_,t_,t_,t_,t_,t_,f_,f_,f_] rfl rfl (bZ_ HT_.out (by kernel_rfl)) (by decide) (fun K hK => ?_)
 (first | refine goes_ Tryd.func65 (by kernel_rfl) rfl #[.pointer (some ⟨g, 0, none⟩), .int .i64 21] (by rfl) rfl rfl (by first | rfl | (simp only [lma_, lmc_, lmn_]; first | done | rfl)) ?_ | refine RPW.cj_ Tryd.func65 (by kernel_rfl) rfl #[.pointer (some ⟨g, 0, none⟩), .int .i64 21] (by rfl) rfl rfl rfl (by first | rfl | (simp only [lma_, lmc_, lmn_]; first | done | rfl)) ?_ | refine RPW.ci_ Tryd.func65 (by kernel_rfl) rfl #[.pointer (some ⟨g, 0, none⟩), .int .i64 21] (by rfl) rfl rfl rfl (by first | rfl | (simp only [lma_, lmc_, lmn_]; first | done | rfl)) ?_)
 with_reducible refine (aj_.calls g s0_0 t103 t104 21 t110 t111 t112 w0 _ ?side1 ?side2 A7.out).mono ?_
 (case side1 => repeat (first | (with_reducible first | exact HI0.out | apply IsS81.alloc | apply IsS81.drewN | apply IsS81.drew | apply IsS81.set_1 | apply IsS81.set_2 | refine IsS81.far ?_ NB0_101.out _) | exact HI0.out))
 (case side2 => repeat (first | (with_reducible first | exact HB.out | apply bA_ | apply bN_ | apply bD_ | refine ab_ ?_ (IsS81.ge HI0.out) | refine ab_ ?_ GE101.out) | exact HB.out))
 rintro e w19 ⟨rfl, hi, hb, hk⟩
 have HS0_ := keep_cell hk (hHeld.1) (by first | (rw [add_block]; exact Kd.ck_ (IsS81.own_neN HI0.out HO107.out (by decide))) | (show (Addr.add _ _).block ≠ _; rw [add_block]; exact Kd.ck_ (IsS81.own_neN HI0.out HO107.out (by decide))) | exact Kd.ck_ (IsS81.own_neN HI0.out HO107.out (by decide)))
 have HS1_ := keep_cell hk (hHeld.2) (by first | (rw [add_block]; exact RPW.V_ne HL108_0.out (fun _ hk => hk.1.2) (by have h1_ := of_eq_true p109; have h2_ := of_eq_true q109; omega) (by decide)) | (show (Addr.add _ _).block ≠ _; rw [add_block]; exact RPW.V_ne HL108_0.out (fun _ hk => hk.1.2) (by have h1_ := of_eq_true p109; have h2_ := of_eq_true q109; omega) (by decide)) | exact RPW.V_ne HL108_0.out (fun _ hk => hk.1.2) (by have h1_ := of_eq_true p109; have h2_ := of_eq_true q109; omega) (by decide))
 refine ⟨_, rfl, ?_⟩
 have n0_ := Aside0.mk (ac_.blk hk (g' := gb101) (o := .cells #[.string (⟨#[]⟩ : ByteArray), .int .i64 0, .int .i64 0] 94 (0, 0)) (kz BK101.out) NB101_0.out (by simp))
 have n1_ := Aside0.mk (Kd.cQ_ (Kd.N_keep (Kd.cQ_ (ok := fun k_ => (k_ ≠ gb101 ∧ k_ ≠ g)) (nz HO107.out) (fun k_ hk_ => (⟨hk_, hk_.2⟩ : _ ∧ k_ ≠ g))) hk (fun _ h => h.2)) (fun _ h => h.1))
 have n2_ := Aside0.mk (Kd.db_ (Kd.V_keep (Kd.db_ (ok := fun k_ => ((k_ ≠ gb101 ∧ k_ ≠ g) ∧ some k_ ≠ (.slice (some ad108) t105.length co18 : Value).ownBlock)) (vz HL108_0.out) (fun k_ hk_ => (⟨hk_, hk_.1.2⟩ : _ ∧ k_ ≠ g))) hk (fun _ h => h.2)) (fun _ h => h.1))
 have n3_ := Aside0.mk (ac_.trans (by repeat (first | (with_reducible first | exact HK.out | apply ac_.set_ | apply ad_ | apply af_ | apply ae_ | refine ag_ ?_ GW101.out _) | exact HK.out)) hk (.inl rfl))
 have n4_ := Aside0.mk (hb)
 have n5_ := Aside0.mk (hi)
 clear BK101
 clear HO107
 clear HL108_0
 clear HK
 clear HB
 clear HI0
 have BK101 := n0_
 have HO107 := n1_
 have HL108_0 := n2_
 have HK := n3_
 have HB := n4_
 have HI0 := n5_
 clear n0_ n1_ n2_ n3_ n4_ n5_
 (try clear hb)
 refine hK.out _ _ ⟨HS0_, HS1_⟩ (fun hHeld => ?_)
 clear hK K
 refine norm_ (a' := ?_) ?_ ?_
 rotate_left
 ·show Act.put _ (some 16) _ = _
  simp only [Act.put, lsa_, ls0_, ls1_, i64_w, i32_w]
  rfl
 refine pu 8 17 #[t_,t_,t_,t_,t_,t_,t_,t_,t_,f_,f_] HT_ ?_
 refine pu 9 18 #[t_,t_,t_,t_,t_,t_,t_,t_,t_,t_,f_] HT_ ?_
 refine pu 10 4 #[t_,t_,t_,t_,t_,t_,t_,t_,t_,t_,t_] HT_ ?_
 refine done_ (cO_ HT_.out (by kernel_rfl)) ?_
 try go_wp2
 have pi116 : (0 ≤ (t102 : Int)) = True := eq_true (of_decide_eq_true (by assumption))
 have qi116 : (t102 < (t113.length : Int)) = True := eq_true (of_decide_eq_true (by assumption))
 have n0_ := Aside0.mk (Kd.N_drew HO107.out)
 have n1_ := Aside0.mk (Kd.V_drew HL108_0.out)
 have n2_ := Aside0.mk (aX_ BK101.out)
 have n3_ := Aside0.mk (IsS81.drew HI0.out)
 have n4_ := Aside0.mk (af_ HK.out)
 have n5_ := Aside0.mk (bD_ HB.out)
 clear HO107
 clear HL108_0
 clear BK101
 clear HI0
 clear HK
 clear HB
 have HO107 := n0_
 have HL108_0 := n1_
 have BK101 := n2_
 have HI0 := n3_
 have HK := n4_
 have HB := n5_
 clear n0_ n1_ n2_ n3_ n4_ n5_
 refine cW_ (n := 10) (S := fun w' => True) (ds := []) #[f_,f_,f_,f_,f_,f_,f_,f_,f_,f_] (by kernel_rfl) rfl rfl trivial (fun hHeld => ?_); refine ce_ bh_.tab3 bh_.bits3 (fun HT_ HW_ => ?_)
 generalize w19.drew = w20 at HO107 HL108_0 BK101 HI0 HK HB hHeld ⊢
 refine pu 1 20 #[f_,t_,f_,f_,f_,f_,f_,f_,f_,f_] HT_ ?_
 refine pu 4 23 #[f_,t_,f_,f_,t_,f_,f_,f_,f_,f_] HT_ ?_
 refine join_ (σ := Value × Addr × Nat) 1 #[t_,t_,t_,t_,t_,t_,t_,t_,t_,f_] (fun s_ => [(19, s_.1), (22, .string (rdOf ByteArray.empty t113 t102)), (24, .int .i64 t117), (25, .int .i64 t118), (5, .pointer (some ⟨s_.2.2, 0, none⟩)), (21, .pointer (some (s_.2.1.add (t102).toNat))), (26, .agg #[.string (rdOf ByteArray.empty t113 t102), .int .i64 t118, .int .i64 0])]) (fun s_ w' => (Kd.V (Kd.int .i64) 2 w' w.heap.size (fun k_ => some k_ ≠ (.slice (some ad108) t105.length co18 : Value).ownBlock ∧ some k_ ≠ (s_.1 : Value).ownBlock ∧ k_ ≠ g ∧ k_ ≠ gb101 ∧ k_ ≠ s_.2.2) (.slice (some ad109) (rd_L4 t105 t102).length c108_0) (rd_L4 t105 t102)) ∧ (Kd.N (Kd.slice 2 (Kd.int .i64)) 22 w' w.heap.size (fun k_ => some k_ ≠ (s_.1 : Value).ownBlock ∧ k_ ≠ g ∧ k_ ≠ gb101 ∧ k_ ≠ s_.2.2) (.slice (some ad108) t105.length co18) t105) ∧ (Kd.R Kd.string 9 w' w.heap.size (fun _ => True) s_.1 t113) ∧ (∃ c_, (s_.1 : Value) = .slice (some s_.2.1) t113.length c_) ∧ (w'.heap[gb101]? = some (.cells #[.string (⟨#[]⟩ : ByteArray), .int .i64 0, .int .i64 0] 94 (0, 0))) ∧ (w'.heap[s_.2.2]? = some (.cells #[.string (⟨#[]⟩ : ByteArray), .int .i64 0, .int .i64 0] 94 (0, 0))) ∧ (w.heap.size ≤ s_.2.2) ∧ (w0.heap.size ≤ s_.2.2) ∧ (g ≠ s_.2.2) ∧ (s_.2.2 ≠ g) ∧ (gb101 ≠ s_.2.2) ∧ (s_.2.2 ≠ gb101) ∧ (IsS81 w0 w' g s0_0 t111 t112) ∧ (ac_ w w' g none) ∧ (Below w0.heap.size w0 w')) ?_ ?_
 rotate_left
 ·intro hJ0_3_5_6_8
  refine join_ (σ := Value × Addr) 2 #[t_,t_,t_,t_,t_,t_,t_,t_,f_,f_] (fun s_ => [(19, s_.1), (22, .string (rdOf ByteArray.empty t113 t102)), (24, .int .i64 t117), (25, .int .i64 t118), (21, .pointer (some (s_.2.add (t102).toNat))), (26, .agg #[.string (rdOf ByteArray.empty t113 t102), .int .i64 t118, .int .i64 0])]) (fun s_ w' => (Kd.V (Kd.int .i64) 2 w' w.heap.size (fun k_ => some k_ ≠ (.slice (some ad108) t105.length co18 : Value).ownBlock ∧ some k_ ≠ (s_.1 : Value).ownBlock ∧ k_ ≠ g ∧ k_ ≠ gb101) (.slice (some ad109) (rd_L4 t105 t102).length c108_0) (rd_L4 t105 t102)) ∧ (Kd.N (Kd.slice 2 (Kd.int .i64)) 22 w' w.heap.size (fun k_ => some k_ ≠ (s_.1 : Value).ownBlock ∧ k_ ≠ g ∧ k_ ≠ gb101) (.slice (some ad108) t105.length co18) t105) ∧ (Kd.R Kd.string 9 w' w.heap.size (fun _ => True) s_.1 t113) ∧ (∃ c_, (s_.1 : Value) = .slice (some s_.2) t113.length c_) ∧ (w'.heap[gb101]? = some (.cells #[.string (⟨#[]⟩ : ByteArray), .int .i64 0, .int .i64 0] 94 (0, 0))) ∧ (IsS81 w0 w' g s0_0 t111 t112) ∧ (ac_ w w' g none) ∧ (Below w0.heap.size w0 w')) ?_ ?_
  rotate_left
  ·intro hJ0_3_5_6
   refine join_ (σ := Value × Addr × Nat) 3 #[t_,t_,t_,t_,t_,t_,f_,f_,t_,f_] (fun s_ => [(19, s_.1), (22, .string (rdOf ByteArray.empty t113 t102)), (24, .int .i64 t117), (5, .pointer (some ⟨s_.2.2, 0, none⟩)), (21, .pointer (some (s_.2.1.add (t102).toNat)))]) (fun s_ w' => (Kd.V (Kd.int .i64) 2 w' w.heap.size (fun k_ => some k_ ≠ (.slice (some ad108) t105.length co18 : Value).ownBlock ∧ some k_ ≠ (s_.1 : Value).ownBlock ∧ k_ ≠ g ∧ k_ ≠ gb101 ∧ k_ ≠ s_.2.2) (.slice (some ad109) (rd_L4 t105 t102).length c108_0) (rd_L4 t105 t102)) ∧ (Kd.N (Kd.slice 2 (Kd.int .i64)) 22 w' w.heap.size (fun k_ => some k_ ≠ (s_.1 : Value).ownBlock ∧ k_ ≠ g ∧ k_ ≠ gb101 ∧ k_ ≠ s_.2.2) (.slice (some ad108) t105.length co18) t105) ∧ (Kd.R Kd.string 9 w' w.heap.size (fun _ => True) s_.1 t113) ∧ (∃ c_, (s_.1 : Value) = .slice (some s_.2.1) t113.length c_) ∧ (w'.heap[gb101]? = some (.cells #[.string (⟨#[]⟩ : ByteArray), .int .i64 0, .int .i64 0] 94 (0, 0))) ∧ (w'.heap[s_.2.2]? = some (.cells #[.string (⟨#[]⟩ : ByteArray), .int .i64 0, .int .i64 0] 94 (0, 0))) ∧ (w.heap.size ≤ s_.2.2) ∧ (w0.heap.size ≤ s_.2.2) ∧ (g ≠ s_.2.2) ∧ (s_.2.2 ≠ g) ∧ (gb101 ≠ s_.2.2) ∧ (s_.2.2 ≠ gb101) ∧ (IsS81 w0 w' g s0_0 t111 t112) ∧ (ac_ w w' g none) ∧ (Below w0.heap.size w0 w')) ?_ ?_
   rotate_left
   ·intro hJ0_3_5_8
    refine join_ (σ := Value × Addr × Nat) 3 #[t_,t_,t_,f_,t_,t_,t_,f_,t_,f_] (fun s_ => [(19, s_.1), (24, .int .i64 t117), (25, .int .i64 t118), (5, .pointer (some ⟨s_.2.2, 0, none⟩)), (21, .pointer (some (s_.2.1.add (t102).toNat)))]) (fun s_ w' => (Kd.V (Kd.int .i64) 2 w' w.heap.size (fun k_ => some k_ ≠ (.slice (some ad108) t105.length co18 : Value).ownBlock ∧ some k_ ≠ (s_.1 : Value).ownBlock ∧ k_ ≠ g ∧ k_ ≠ gb101 ∧ k_ ≠ s_.2.2) (.slice (some ad109) (rd_L4 t105 t102).length c108_0) (rd_L4 t105 t102)) ∧ (Kd.N (Kd.slice 2 (Kd.int .i64)) 22 w' w.heap.size (fun k_ => some k_ ≠ (s_.1 : Value).ownBlock ∧ k_ ≠ g ∧ k_ ≠ gb101 ∧ k_ ≠ s_.2.2) (.slice (some ad108) t105.length co18) t105) ∧ (Kd.R Kd.string 9 w' w.heap.size (fun _ => True) s_.1 t113) ∧ (∃ c_, (s_.1 : Value) = .slice (some s_.2.1) t113.length c_) ∧ (w'.heap[gb101]? = some (.cells #[.string (⟨#[]⟩ : ByteArray), .int .i64 0, .int .i64 0] 94 (0, 0))) ∧ (w'.heap[s_.2.2]? = some (.cells #[.string (⟨#[]⟩ : ByteArray), .int .i64 0, .int .i64 0] 94 (0, 0))) ∧ (w.heap.size ≤ s_.2.2) ∧ (w0.heap.size ≤ s_.2.2) ∧ (g ≠ s_.2.2) ∧ (s_.2.2 ≠ g) ∧ (gb101 ≠ s_.2.2) ∧ (s_.2.2 ≠ gb101) ∧ (IsS81 w0 w' g s0_0 t111 t112) ∧ (ac_ w w' g none) ∧ (Below w0.heap.size w0 w')) ?_ ?_
    rotate_left
    ·intro hJ0_5_6_8
     refine join_ (σ := Value × Addr) 4 #[t_,t_,t_,t_,t_,t_,f_,f_,f_,f_] (fun s_ => [(19, s_.1), (22, .string (rdOf ByteArray.empty t113 t102)), (24, .int .i64 t117), (21, .pointer (some (s_.2.add (t102).toNat)))]) (fun s_ w' => (Kd.V (Kd.int .i64) 2 w' w.heap.size (fun k_ => some k_ ≠ (.slice (some ad108) t105.length co18 : Value).ownBlock ∧ some k_ ≠ (s_.1 : Value).ownBlock ∧ k_ ≠ g ∧ k_ ≠ gb101) (.slice (some ad109) (rd_L4 t105 t102).length c108_0) (rd_L4 t105 t102)) ∧ (Kd.N (Kd.slice 2 (Kd.int .i64)) 22 w' w.heap.size (fun k_ => some k_ ≠ (s_.1 : Value).ownBlock ∧ k_ ≠ g ∧ k_ ≠ gb101) (.slice (some ad108) t105.length co18) t105) ∧ (Kd.R Kd.string 9 w' w.heap.size (fun _ => True) s_.1 t113) ∧ (∃ c_, (s_.1 : Value) = .slice (some s_.2) t113.length c_) ∧ (w'.heap[gb101]? = some (.cells #[.string (⟨#[]⟩ : ByteArray), .int .i64 0, .int .i64 0] 94 (0, 0))) ∧ (IsS81 w0 w' g s0_0 t111 t112) ∧ (ac_ w w' g none) ∧ (Below w0.heap.size w0 w')) ?_ ?_
     rotate_left
     ·intro hJ0_3_5
      refine join_ (σ := Value × Addr × Nat) 4 #[t_,t_,t_,t_,t_,f_,f_,f_,t_,f_] (fun s_ => [(19, s_.1), (22, .string (rdOf ByteArray.empty t113 t102)), (5, .pointer (some ⟨s_.2.2, 0, none⟩)), (21, .pointer (some (s_.2.1.add (t102).toNat)))]) (fun s_ w' => (Kd.V (Kd.int .i64) 2 w' w.heap.size (fun k_ => some k_ ≠ (.slice (some ad108) t105.length co18 : Value).ownBlock ∧ some k_ ≠ (s_.1 : Value).ownBlock ∧ k_ ≠ g ∧ k_ ≠ gb101 ∧ k_ ≠ s_.2.2) (.slice (some ad109) (rd_L4 t105 t102).length c108_0) (rd_L4 t105 t102)) ∧ (Kd.N (Kd.slice 2 (Kd.int .i64)) 22 w' w.heap.size (fun k_ => some k_ ≠ (s_.1 : Value).ownBlock ∧ k_ ≠ g ∧ k_ ≠ gb101 ∧ k_ ≠ s_.2.2) (.slice (some ad108) t105.length co18) t105) ∧ (Kd.R Kd.string 9 w' w.heap.size (fun _ => True) s_.1 t113) ∧ (∃ c_, (s_.1 : Value) = .slice (some s_.2.1) t113.length c_) ∧ (w'.heap[gb101]? = some (.cells #[.string (⟨#[]⟩ : ByteArray), .int .i64 0, .int .i64 0] 94 (0, 0))) ∧ (w'.heap[s_.2.2]? = some (.cells #[.string (⟨#[]⟩ : ByteArray), .int .i64 0, .int .i64 0] 94 (0, 0))) ∧ (w.heap.size ≤ s_.2.2) ∧ (w0.heap.size ≤ s_.2.2) ∧ (g ≠ s_.2.2) ∧ (s_.2.2 ≠ g) ∧ (gb101 ≠ s_.2.2) ∧ (s_.2.2 ≠ gb101) ∧ (IsS81 w0 w' g s0_0 t111 t112) ∧ (ac_ w w' g none) ∧ (Below w0.heap.size w0 w')) ?_ ?_
      rotate_left
      ·intro hJ0_3_8
       refine join_ (σ := Value × Addr) 4 #[t_,t_,t_,f_,t_,t_,t_,f_,f_,f_] (fun s_ => [(19, s_.1), (24, .int .i64 t117), (25, .int .i64 t118), (21, .pointer (some (s_.2.add (t102).toNat)))]) (fun s_ w' => (Kd.V (Kd.int .i64) 2 w' w.heap.size (fun k_ => some k_ ≠ (.slice (some ad108) t105.length co18 : Value).ownBlock ∧ some k_ ≠ (s_.1 : Value).ownBlock ∧ k_ ≠ g ∧ k_ ≠ gb101) (.slice (some ad109) (rd_L4 t105 t102).length c108_0) (rd_L4 t105 t102)) ∧ (Kd.N (Kd.slice 2 (Kd.int .i64)) 22 w' w.heap.size (fun k_ => some k_ ≠ (s_.1 : Value).ownBlock ∧ k_ ≠ g ∧ k_ ≠ gb101) (.slice (some ad108) t105.length co18) t105) ∧ (Kd.R Kd.string 9 w' w.heap.size (fun _ => True) s_.1 t113) ∧ (∃ c_, (s_.1 : Value) = .slice (some s_.2) t113.length c_) ∧ (w'.heap[gb101]? = some (.cells #[.string (⟨#[]⟩ : ByteArray), .int .i64 0, .int .i64 0] 94 (0, 0))) ∧ (IsS81 w0 w' g s0_0 t111 t112) ∧ (ac_ w w' g none) ∧ (Below w0.heap.size w0 w')) ?_ ?_
       rotate_left
       ·intro hJ0_5_6
        refine join_ (σ := Value × Addr × Nat) 4 #[t_,t_,t_,f_,t_,t_,f_,f_,t_,f_] (fun s_ => [(19, s_.1), (24, .int .i64 t117), (5, .pointer (some ⟨s_.2.2, 0, none⟩)), (21, .pointer (some (s_.2.1.add (t102).toNat)))]) (fun s_ w' => (Kd.V (Kd.int .i64) 2 w' w.heap.size (fun k_ => some k_ ≠ (.slice (some ad108) t105.length co18 : Value).ownBlock ∧ some k_ ≠ (s_.1 : Value).ownBlock ∧ k_ ≠ g ∧ k_ ≠ gb101 ∧ k_ ≠ s_.2.2) (.slice (some ad109) (rd_L4 t105 t102).length c108_0) (rd_L4 t105 t102)) ∧ (Kd.N (Kd.slice 2 (Kd.int .i64)) 22 w' w.heap.size (fun k_ => some k_ ≠ (s_.1 : Value).ownBlock ∧ k_ ≠ g ∧ k_ ≠ gb101 ∧ k_ ≠ s_.2.2) (.slice (some ad108) t105.length co18) t105) ∧ (Kd.R Kd.string 9 w' w.heap.size (fun _ => True) s_.1 t113) ∧ (∃ c_, (s_.1 : Value) = .slice (some s_.2.1) t113.length c_) ∧ (w'.heap[gb101]? = some (.cells #[.string (⟨#[]⟩ : ByteArray), .int .i64 0, .int .i64 0] 94 (0, 0))) ∧ (w'.heap[s_.2.2]? = some (.cells #[.string (⟨#[]⟩ : ByteArray), .int .i64 0, .int .i64 0] 94 (0, 0))) ∧ (w.heap.size ≤ s_.2.2) ∧ (w0.heap.size ≤ s_.2.2) ∧ (g ≠ s_.2.2) ∧ (s_.2.2 ≠ g) ∧ (gb101 ≠ s_.2.2) ∧ (s_.2.2 ≠ gb101) ∧ (IsS81 w0 w' g s0_0 t111 t112) ∧ (ac_ w w' g none) ∧ (Below w0.heap.size w0 w')) ?_ ?_
        rotate_left
        ·intro hJ0_5_8
         refine join_ (σ := Value × Addr) 5 #[t_,t_,t_,t_,t_,f_,f_,f_,f_,f_] (fun s_ => [(19, s_.1), (22, .string (rdOf ByteArray.empty t113 t102)), (21, .pointer (some (s_.2.add (t102).toNat)))]) (fun s_ w' => (Kd.V (Kd.int .i64) 2 w' w.heap.size (fun k_ => some k_ ≠ (.slice (some ad108) t105.length co18 : Value).ownBlock ∧ some k_ ≠ (s_.1 : Value).ownBlock ∧ k_ ≠ g ∧ k_ ≠ gb101) (.slice (some ad109) (rd_L4 t105 t102).length c108_0) (rd_L4 t105 t102)) ∧ (Kd.N (Kd.slice 2 (Kd.int .i64)) 22 w' w.heap.size (fun k_ => some k_ ≠ (s_.1 : Value).ownBlock ∧ k_ ≠ g ∧ k_ ≠ gb101) (.slice (some ad108) t105.length co18) t105) ∧ (Kd.R Kd.string 9 w' w.heap.size (fun _ => True) s_.1 t113) ∧ (∃ c_, (s_.1 : Value) = .slice (some s_.2) t113.length c_) ∧ (w'.heap[gb101]? = some (.cells #[.string (⟨#[]⟩ : ByteArray), .int .i64 0, .int .i64 0] 94 (0, 0))) ∧ (IsS81 w0 w' g s0_0 t111 t112) ∧ (ac_ w w' g none) ∧ (Below w0.heap.size w0 w')) ?_ ?_
         rotate_left
         ·intro hJ0_3
          refine join_ (σ := Value × Addr) 5 #[t_,t_,t_,f_,t_,t_,f_,f_,f_,f_] (fun s_ => [(19, s_.1), (24, .int .i64 t117), (21, .pointer (some (s_.2.add (t102).toNat)))]) (fun s_ w' => (Kd.V (Kd.int .i64) 2 w' w.heap.size (fun k_ => some k_ ≠ (.slice (some ad108) t105.length co18 : Value).ownBlock ∧ some k_ ≠ (s_.1 : Value).ownBlock ∧ k_ ≠ g ∧ k_ ≠ gb101) (.slice (some ad109) (rd_L4 t105 t102).length c108_0) (rd_L4 t105 t102)) ∧ (Kd.N (Kd.slice 2 (Kd.int .i64)) 22 w' w.heap.size (fun k_ => some k_ ≠ (s_.1 : Value).ownBlock ∧ k_ ≠ g ∧ k_ ≠ gb101) (.slice (some ad108) t105.length co18) t105) ∧ (Kd.R Kd.string 9 w' w.heap.size (fun _ => True) s_.1 t113) ∧ (∃ c_, (s_.1 : Value) = .slice (some s_.2) t113.length c_) ∧ (w'.heap[gb101]? = some (.cells #[.string (⟨#[]⟩ : ByteArray), .int .i64 0, .int .i64 0] 94 (0, 0))) ∧ (IsS81 w0 w' g s0_0 t111 t112) ∧ (ac_ w w' g none) ∧ (Below w0.heap.size w0 w')) ?_ ?_
          rotate_left
          ·intro hJ0_5
           refine join_ (σ := Value × Addr × Nat) 5 #[t_,t_,t_,f_,t_,f_,f_,f_,t_,f_] (fun s_ => [(19, s_.1), (5, .pointer (some ⟨s_.2.2, 0, none⟩)), (21, .pointer (some (s_.2.1.add (t102).toNat)))]) (fun s_ w' => (Kd.V (Kd.int .i64) 2 w' w.heap.size (fun k_ => some k_ ≠ (.slice (some ad108) t105.length co18 : Value).ownBlock ∧ some k_ ≠ (s_.1 : Value).ownBlock ∧ k_ ≠ g ∧ k_ ≠ gb101 ∧ k_ ≠ s_.2.2) (.slice (some ad109) (rd_L4 t105 t102).length c108_0) (rd_L4 t105 t102)) ∧ (Kd.N (Kd.slice 2 (Kd.int .i64)) 22 w' w.heap.size (fun k_ => some k_ ≠ (s_.1 : Value).ownBlock ∧ k_ ≠ g ∧ k_ ≠ gb101 ∧ k_ ≠ s_.2.2) (.slice (some ad108) t105.length co18) t105) ∧ (Kd.R Kd.string 9 w' w.heap.size (fun _ => True) s_.1 t113) ∧ (∃ c_, (s_.1 : Value) = .slice (some s_.2.1) t113.length c_) ∧ (w'.heap[gb101]? = some (.cells #[.string (⟨#[]⟩ : ByteArray), .int .i64 0, .int .i64 0] 94 (0, 0))) ∧ (w'.heap[s_.2.2]? = some (.cells #[.string (⟨#[]⟩ : ByteArray), .int .i64 0, .int .i64 0] 94 (0, 0))) ∧ (w.heap.size ≤ s_.2.2) ∧ (w0.heap.size ≤ s_.2.2) ∧ (g ≠ s_.2.2) ∧ (s_.2.2 ≠ g) ∧ (gb101 ≠ s_.2.2) ∧ (s_.2.2 ≠ gb101) ∧ (IsS81 w0 w' g s0_0 t111 t112) ∧ (ac_ w w' g none) ∧ (Below w0.heap.size w0 w')) ?_ ?_
           rotate_left
           ·intro hJ0_8
            refine join_ (σ := Value × Addr) 6 #[t_,t_,t_,f_,t_,f_,f_,f_,f_,f_] (fun s_ => [(19, s_.1), (21, .pointer (some (s_.2.add (t102).toNat)))]) (fun s_ w' => (Kd.V (Kd.int .i64) 2 w' w.heap.size (fun k_ => some k_ ≠ (.slice (some ad108) t105.length co18 : Value).ownBlock ∧ some k_ ≠ (s_.1 : Value).ownBlock ∧ k_ ≠ g ∧ k_ ≠ gb101) (.slice (some ad109) (rd_L4 t105 t102).length c108_0) (rd_L4 t105 t102)) ∧ (Kd.N (Kd.slice 2 (Kd.int .i64)) 22 w' w.heap.size (fun k_ => some k_ ≠ (s_.1 : Value).ownBlock ∧ k_ ≠ g ∧ k_ ≠ gb101) (.slice (some ad108) t105.length co18) t105) ∧ (Kd.R Kd.string 9 w' w.heap.size (fun _ => True) s_.1 t113) ∧ (∃ c_, (s_.1 : Value) = .slice (some s_.2) t113.length c_) ∧ (w'.heap[gb101]? = some (.cells #[.string (⟨#[]⟩ : ByteArray), .int .i64 0, .int .i64 0] 94 (0, 0))) ∧ (IsS81 w0 w' g s0_0 t111 t112) ∧ (ac_ w w' g none) ∧ (Below w0.heap.size w0 w')) ?_ ?_
            rotate_left
            ·intro hJ0
             refine join_ (σ := Nat) 7 #[f_,t_,f_,f_,t_,f_,f_,f_,t_,f_] (fun s_ => [(5, .pointer (some ⟨s_, 0, none⟩))]) (fun s_ w' => (Kd.V (Kd.int .i64) 2 w' w.heap.size (fun k_ => some k_ ≠ (.slice (some ad108) t105.length co18 : Value).ownBlock ∧ k_ ≠ g ∧ k_ ≠ gb101 ∧ k_ ≠ s_) (.slice (some ad109) (rd_L4 t105 t102).length c108_0) (rd_L4 t105 t102)) ∧ (Kd.N (Kd.slice 2 (Kd.int .i64)) 22 w' w.heap.size (fun k_ => k_ ≠ g ∧ k_ ≠ gb101 ∧ k_ ≠ s_) (.slice (some ad108) t105.length co18) t105) ∧ (w'.heap[gb101]? = some (.cells #[.string (⟨#[]⟩ : ByteArray), .int .i64 0, .int .i64 0] 94 (0, 0))) ∧ (w'.heap[s_]? = some (.cells #[.string (⟨#[]⟩ : ByteArray), .int .i64 0, .int .i64 0] 94 (0, 0))) ∧ (w.heap.size ≤ s_) ∧ (w0.heap.size ≤ s_) ∧ (g ≠ s_) ∧ (s_ ≠ g) ∧ (gb101 ≠ s_) ∧ (s_ ≠ gb101) ∧ (IsS81 w0 w' g s0_0 t111 t112) ∧ (ac_ w w' g none) ∧ (Below w0.heap.size w0 w')) ?_ ?_
             rotate_left
             ·intro hJ8
              refine two_ (i := 0) (j := 8) (Ni := some 19) (Nj := some 5) #[t_,t_,f_,f_,t_,f_,f_,f_,f_,f_] #[f_,t_,f_,f_,t_,f_,f_,f_,t_,f_] rfl rfl rfl rfl (two_of HT_.out (by kernel_rfl)) (by decide) (by decide) (fun K hK => ?_) (fun K hK => ?_)
              ·skip
               (first | refine goes_ Tryd.func112 (by kernel_rfl) rfl #[] (by rfl) rfl rfl (by first | rfl | (simp only [lma_, lmc_, lmn_]; first | done | rfl)) ?_ | refine RPW.cj_ Tryd.func112 (by kernel_rfl) rfl #[] (by rfl) rfl rfl rfl (by first | rfl | (simp only [lma_, lmc_, lmn_]; first | done | rfl)) ?_ | refine RPW.ci_ Tryd.func112 (by kernel_rfl) rfl #[] (by rfl) rfl rfl rfl (by first | rfl | (simp only [lma_, lmc_, lmn_]; first | done | rfl)) ?_)
               with_reducible refine (cn_.calls  t113 _ A8.out).mono ?_
               rintro e w21 ⟨v114, rfl, ho0, hb⟩
               refine ⟨_, rfl, ?_⟩
               have n0_ := Aside0.mk (Kd.N_elder' (nz HO107.out) (Kd.bs_ ho0) hb)
               have n1_ := Aside0.mk (Kd.V_elder' (vz HL108_0.out) (Kd.bs_ ho0) hb)
               have n2_ := Aside0.mk (Kd.bw_ ho0 (aZ_ (w := w) (g := g) (row := none) (by repeat (first | (with_reducible first | exact HK.out | apply ac_.set_ | apply ad_ | apply af_ | apply ae_ | refine ag_ ?_ GW101.out _) | exact HK.out))))
               have n3_ := Aside0.mk (IsS81.below (by repeat (first | (with_reducible first | exact HI0.out | apply IsS81.alloc | apply IsS81.drewN | apply IsS81.drew | apply IsS81.set_1 | apply IsS81.set_2 | refine IsS81.far ?_ NB0_101.out _) | exact HI0.out)) hb)
               have n4_ := Aside0.mk (az_ (kz BK101.out) hb)
               have n5_ := Aside0.mk (ac_.trans (by repeat (first | (with_reducible first | exact HK.out | apply ac_.set_ | apply ad_ | apply af_ | apply ae_ | refine ag_ ?_ GW101.out _) | exact HK.out)) (ac_.of_below hb g none) (.inl rfl))
               have n6_ := Aside0.mk (ah_ (by repeat (first | (with_reducible first | exact HB.out | apply bA_ | apply bN_ | apply bD_ | refine ab_ ?_ (IsS81.ge HI0.out) | refine ab_ ?_ GE101.out) | exact HB.out)) hb)
               clear HO107
               clear HL108_0
               clear HI0
               clear BK101
               clear HK
               clear HB
               have HO107 := n0_
               have HL108_0 := n1_
               have HO115 := n2_
               have HI0 := n3_
               have BK101 := n4_
               have HK := n5_
               have HB := n6_
               clear n0_ n1_ n2_ n3_ n4_ n5_ n6_
               (try clear hb)
               (try clear ho0)
               obtain ⟨Ao22, co22, eo22⟩ := Kd.bL_ HO115.out
               subst eo22
               obtain ⟨ado22, fo22, _⟩ := Kd.cc_ (Kd.aE_ HO115.out).2.2 0 (by decide) (by have h1_ := of_eq_true pi116; have h2_ := of_eq_true qi116; omega)
               cases fo22
               refine hK.out _ _ trivial (fun hHeld => ?_)
               clear hK K
               refine norm_ (a' := ?_) ?_ ?_
               rotate_left
               ·show Act.put _ (some 19) _ = _
                simp only [Act.put, lsa_, ls0_, ls1_, i64_w, i32_w]
                rfl
               refine pu 2 21 #[t_,t_,t_,f_,t_,f_,f_,f_,f_,f_] HT_ ?_
               exact norm_ (by first | (simp only [bt_, Act.put, lsa_, ls0_, ls1_]; done) | (simp only [bt_, Act.put, lsa_, ls0_, ls1_]; rfl)) (hJ0 (.slice (some ado22) t113.length co22, ado22) _ ⟨(vz (Kd.db_ HL108_0.out (fun _ hk => ⟨hk.1.2, ⟨hk.2, ⟨hk.1.1.2, hk.1.1.1⟩⟩⟩))), (nz (Kd.cQ_ HO107.out (fun _ hk => ⟨hk.2, ⟨hk.1.2, hk.1.1⟩⟩))), (rz HO115.out), ⟨_, rfl⟩, (kz BK101.out), (by repeat (first | (with_reducible first | exact HI0.out | apply IsS81.alloc | apply IsS81.drewN | apply IsS81.drew | apply IsS81.set_1 | apply IsS81.set_2 | refine IsS81.far ?_ NB0_101.out _) | exact HI0.out)), (by repeat (first | (with_reducible first | exact HK.out | apply ac_.set_ | apply ad_ | apply af_ | apply ae_ | refine ag_ ?_ GW101.out _) | exact HK.out)), (by repeat (first | (with_reducible first | exact HB.out | apply bA_ | apply bN_ | apply bD_ | refine ab_ ?_ (IsS81.ge HI0.out) | refine ab_ ?_ GE101.out) | exact HB.out))⟩)
              ·skip
               refine de_ ?hg (N := 5) ?hd (cs := #[.string (⟨#[]⟩ : ByteArray), .int .i64 0, .int .i64 0]) (t := 94) ?hr ?_; (case hd => rfl); (case hg => rfl); (case hr => (go_simp; try rfl))
               intro gb119 hg w21 hbox hb
               have n0_ := Aside0.mk (Kd.N_below (Kd.N_elderB (nz HO107.out) gb119 (Nat.le_of_eq hg.symm)) hb)
               have n1_ := Aside0.mk (Kd.V_below (Kd.V_elderB (vz HL108_0.out) gb119 (Nat.le_of_eq hg.symm)) hb)
               have n2_ := Aside0.mk (IsS81.below (by repeat (first | (with_reducible first | exact HI0.out | apply IsS81.alloc | apply IsS81.drewN | apply IsS81.drew | apply IsS81.set_1 | apply IsS81.set_2 | refine IsS81.far ?_ NB0_101.out _) | exact HI0.out)) hb)
               have n3_ := Aside0.mk (az_ (kz BK101.out) hb)
               have n4_ := Aside0.mk (ac_.trans (by repeat (first | (with_reducible first | exact HK.out | apply ac_.set_ | apply ad_ | apply af_ | apply ae_ | refine ag_ ?_ GW101.out _) | exact HK.out)) (ac_.of_below hb g none) (.inl rfl))
               have n5_ := Aside0.mk (ah_ (by repeat (first | (with_reducible first | exact HB.out | apply bA_ | apply bN_ | apply bD_ | refine ab_ ?_ (IsS81.ge HI0.out) | refine ab_ ?_ GE101.out) | exact HB.out)) hb)
               have n6_ := Aside0.mk (hbox)
               have n7_ := Aside0.mk ((by rw [hg]; exact (aZ_ (w := w) (g := g) (row := none) (by repeat (first | (with_reducible first | exact HK.out | apply ac_.set_ | apply ad_ | apply af_ | apply ae_ | refine ag_ ?_ GW101.out _) | exact HK.out))) : w.heap.size ≤ gb119))
               have n8_ := Aside0.mk ((Nat.le_trans HW0.out (by rw [hg]; exact (aZ_ (w := w) (g := g) (row := none) (by repeat (first | (with_reducible first | exact HK.out | apply ac_.set_ | apply ad_ | apply af_ | apply ae_ | refine ag_ ?_ GW101.out _) | exact HK.out))) : w.heap.size ≤ gb119) : w0.heap.size ≤ gb119))
               have n9_ := Aside0.mk ((by rw [hg]; exact Nat.ne_of_lt (bX_ (kz BK101.out)) : gb101 ≠ gb119))
               have n10_ := Aside0.mk ((by rw [hg]; exact Nat.ne_of_gt (bX_ (kz BK101.out)) : gb119 ≠ gb101))
               have n11_ := Aside0.mk ((by rw [hg]; exact Nat.ne_of_lt (IsS81.lt (show IsS81 w0 _ g s0_0 t111 t112 from by repeat (first | (with_reducible first | exact HI0.out | apply IsS81.alloc | apply IsS81.drewN | apply IsS81.drew | apply IsS81.set_1 | apply IsS81.set_2 | refine IsS81.far ?_ NB0_101.out _) | exact HI0.out))) : g ≠ gb119))
               have n12_ := Aside0.mk ((by rw [hg]; exact Nat.ne_of_gt (IsS81.lt (show IsS81 w0 _ g s0_0 t111 t112 from by repeat (first | (with_reducible first | exact HI0.out | apply IsS81.alloc | apply IsS81.drewN | apply IsS81.drew | apply IsS81.set_1 | apply IsS81.set_2 | refine IsS81.far ?_ NB0_101.out _) | exact HI0.out))) : gb119 ≠ g))
               clear HO107
               clear HL108_0
               clear HI0
               clear BK101
               clear HK
               clear HB
               have HO107 := n0_
               have HL108_0 := n1_
               have HI0 := n2_
               have BK101 := n3_
               have HK := n4_
               have HB := n5_
               have BK119 := n6_
               have GW119 := n7_
               have GE119 := n8_
               have NB101_119 := n9_
               have NB119_101 := n10_
               have NB0_119 := n11_
               have NB119_0 := n12_
               clear n0_ n1_ n2_ n3_ n4_ n5_ n6_ n7_ n8_ n9_ n10_ n11_ n12_
               clear hb hbox hg
               refine hK.out _ _ trivial (fun hHeld => ?_)
               clear hK K
               refine norm_ (a' := ?_) ?_ ?_
               rotate_left
               ·show Act.put _ (some 5) _ = _
                simp only [Act.put, lsa_, ls0_, ls1_, i64_w, i32_w]
                rfl
               exact norm_ (by first | (simp only [bt_, Act.put, lsa_, ls0_, ls1_]; done) | (simp only [bt_, Act.put, lsa_, ls0_, ls1_]; rfl)) (hJ8 (gb119) _ ⟨(vz (Kd.db_ HL108_0.out (fun _ hk => ⟨hk.1.2, ⟨hk.1.1.2, ⟨hk.1.1.1, hk.2⟩⟩⟩))), (nz (Kd.cQ_ HO107.out (fun _ hk => ⟨hk.1.2, ⟨hk.1.1, hk.2⟩⟩))), (kz BK101.out), (kz BK119.out), GW119.out, GE119.out, NB0_119.out, NB119_0.out, NB101_119.out, NB119_101.out, (by repeat (first | (with_reducible first | exact HI0.out | apply IsS81.alloc | apply IsS81.drewN | apply IsS81.drew | apply IsS81.set_1 | apply IsS81.set_2 | refine IsS81.far ?_ NB0_101.out _ | refine IsS81.far ?_ NB0_119.out _) | exact HI0.out)), (by repeat (first | (with_reducible first | exact HK.out | apply ac_.set_ | apply ad_ | apply af_ | apply ae_ | refine ag_ ?_ GW101.out _ | refine ag_ ?_ GW119.out _) | exact HK.out)), (by repeat (first | (with_reducible first | exact HB.out | apply bA_ | apply bN_ | apply bD_ | refine ab_ ?_ (IsS81.ge HI0.out) | refine ab_ ?_ GE101.out | refine ab_ ?_ GE119.out) | exact HB.out))⟩)
             ·skip
              rintro gb119 w22 ⟨h0_, h1_, h2_, h3_, h4_, h5_, h6_, h7_, h8_, h9_, h10_, h11_, h12_⟩
              have n0_ : Aside0 (Kd.V (Kd.int .i64) 2 w22 w.heap.size (fun k_ => some k_ ≠ (.slice (some ad108) t105.length co18 : Value).ownBlock ∧ k_ ≠ g ∧ k_ ≠ gb101 ∧ k_ ≠ gb119) (.slice (some ad109) (rd_L4 t105 t102).length c108_0) (rd_L4 t105 t102)) := ⟨h0_⟩
              have n1_ : Aside0 (Kd.N (Kd.slice 2 (Kd.int .i64)) 22 w22 w.heap.size (fun k_ => k_ ≠ g ∧ k_ ≠ gb101 ∧ k_ ≠ gb119) (.slice (some ad108) t105.length co18) t105) := ⟨h1_⟩
              have n2_ : Aside0 (w22.heap[gb101]? = some (.cells #[.string (⟨#[]⟩ : ByteArray), .int .i64 0, .int .i64 0] 94 (0, 0))) := ⟨h2_⟩
              have n3_ : Aside0 (w22.heap[gb119]? = some (.cells #[.string (⟨#[]⟩ : ByteArray), .int .i64 0, .int .i64 0] 94 (0, 0))) := ⟨h3_⟩
              have n4_ : Aside0 (w.heap.size ≤ gb119) := ⟨h4_⟩
              have n5_ : Aside0 (w0.heap.size ≤ gb119) := ⟨h5_⟩
              have n6_ : Aside0 (g ≠ gb119) := ⟨h6_⟩
              have n7_ : Aside0 (gb119 ≠ g) := ⟨h7_⟩
              have n8_ : Aside0 (gb101 ≠ gb119) := ⟨h8_⟩
              have n9_ : Aside0 (gb119 ≠ gb101) := ⟨h9_⟩
              have n10_ : Aside0 (IsS81 w0 w22 g s0_0 t111 t112) := ⟨h10_⟩
              have n11_ : Aside0 (ac_ w w22 g none) := ⟨h11_⟩
              have n12_ : Aside0 (Below w0.heap.size w0 w22) := ⟨h12_⟩
              clear HO107
              clear HL108_0
              clear BK101
              clear HI0
              clear HK
              clear HB
              clear h0_ h1_ h2_ h3_ h4_ h5_ h6_ h7_ h8_ h9_ h10_ h11_ h12_
              have HL108_0 := n0_
              have HO107 := n1_
              have BK101 := n2_
              have BK119 := n3_
              have GW119 := n4_
              have GE119 := n5_
              have NB0_119 := n6_
              have NB119_0 := n7_
              have NB101_119 := n8_
              have NB119_101 := n9_
              have HI0 := n10_
              have HK := n11_
              have HB := n12_
              clear n0_ n1_ n2_ n3_ n4_ n5_ n6_ n7_ n8_ n9_ n10_ n11_ n12_
              have hHeld := trivial
              refine norm_ (a' := ?_) ?_ ?_
              rotate_left
              ·simp only [bt_, Act.put, lsa_, ls0_, ls1_]
               rfl
              refine one_ (i := 0) (N := some 19) #[t_,t_,f_,f_,t_,f_,f_,f_,t_,f_] rfl rfl (bZ_ HT_.out (by kernel_rfl)) (by decide) (fun K hK => ?_)
              (first | refine goes_ Tryd.func112 (by kernel_rfl) rfl #[] (by rfl) rfl rfl (by first | rfl | (simp only [lma_, lmc_, lmn_]; first | done | rfl)) ?_ | refine RPW.cj_ Tryd.func112 (by kernel_rfl) rfl #[] (by rfl) rfl rfl rfl (by first | rfl | (simp only [lma_, lmc_, lmn_]; first | done | rfl)) ?_ | refine RPW.ci_ Tryd.func112 (by kernel_rfl) rfl #[] (by rfl) rfl rfl rfl (by first | rfl | (simp only [lma_, lmc_, lmn_]; first | done | rfl)) ?_)
              with_reducible refine (cn_.calls  t113 _ A8.out).mono ?_
              rintro e w23 ⟨v114, rfl, ho0, hb⟩
              refine ⟨_, rfl, ?_⟩
              have n0_ := Aside0.mk (Kd.N_elder' (nz HO107.out) (Kd.bs_ ho0) hb)
              have n1_ := Aside0.mk (Kd.V_elder' (vz HL108_0.out) (Kd.bs_ ho0) hb)
              have n2_ := Aside0.mk (Kd.bw_ ho0 (aZ_ (w := w) (g := g) (row := none) (by repeat (first | (with_reducible first | exact HK.out | apply ac_.set_ | apply ad_ | apply af_ | apply ae_ | refine ag_ ?_ GW101.out _ | refine ag_ ?_ GW119.out _) | exact HK.out))))
              have n3_ := Aside0.mk (IsS81.below (by repeat (first | (with_reducible first | exact HI0.out | apply IsS81.alloc | apply IsS81.drewN | apply IsS81.drew | apply IsS81.set_1 | apply IsS81.set_2 | refine IsS81.far ?_ NB0_101.out _ | refine IsS81.far ?_ NB0_119.out _) | exact HI0.out)) hb)
              have n4_ := Aside0.mk (az_ (kz BK101.out) hb)
              have n5_ := Aside0.mk (az_ (kz BK119.out) hb)
              have n6_ := Aside0.mk (ac_.trans (by repeat (first | (with_reducible first | exact HK.out | apply ac_.set_ | apply ad_ | apply af_ | apply ae_ | refine ag_ ?_ GW101.out _ | refine ag_ ?_ GW119.out _) | exact HK.out)) (ac_.of_below hb g none) (.inl rfl))
              have n7_ := Aside0.mk (ah_ (by repeat (first | (with_reducible first | exact HB.out | apply bA_ | apply bN_ | apply bD_ | refine ab_ ?_ (IsS81.ge HI0.out) | refine ab_ ?_ GE101.out | refine ab_ ?_ GE119.out) | exact HB.out)) hb)
              clear HO107
              clear HL108_0
              clear HI0
              clear BK101
              clear BK119
              clear HK
              clear HB
              have HO107 := n0_
              have HL108_0 := n1_
              have HO115 := n2_
              have HI0 := n3_
              have BK101 := n4_
              have BK119 := n5_
              have HK := n6_
              have HB := n7_
              clear n0_ n1_ n2_ n3_ n4_ n5_ n6_ n7_
              (try clear hb)
              (try clear ho0)
              obtain ⟨Ao24, co24, eo24⟩ := Kd.bL_ HO115.out
              subst eo24
              obtain ⟨ado24, fo24, _⟩ := Kd.cc_ (Kd.aE_ HO115.out).2.2 0 (by decide) (by have h1_ := of_eq_true pi116; have h2_ := of_eq_true qi116; omega)
              cases fo24
              refine hK.out _ _ trivial (fun hHeld => ?_)
              clear hK K
              refine norm_ (a' := ?_) ?_ ?_
              rotate_left
              ·show Act.put _ (some 19) _ = _
               simp only [Act.put, lsa_, ls0_, ls1_, i64_w, i32_w]
               rfl
              refine pu 2 21 #[t_,t_,t_,f_,t_,f_,f_,f_,t_,f_] HT_ ?_
              exact norm_ (by first | (simp only [bt_, Act.put, lsa_, ls0_, ls1_]; done) | (simp only [bt_, Act.put, lsa_, ls0_, ls1_]; rfl)) (hJ0_8 (.slice (some ado24) t113.length co24, ado24, gb119) _ ⟨(vz (Kd.db_ HL108_0.out (fun _ hk => ⟨hk.1.1, ⟨hk.2, ⟨hk.1.2.1, ⟨hk.1.2.2.1, hk.1.2.2.2⟩⟩⟩⟩))), (nz (Kd.cQ_ HO107.out (fun _ hk => ⟨hk.2, ⟨hk.1.1, ⟨hk.1.2.1, hk.1.2.2⟩⟩⟩))), (rz HO115.out), ⟨_, rfl⟩, (kz BK101.out), (kz BK119.out), GW119.out, GE119.out, NB0_119.out, NB119_0.out, NB101_119.out, NB119_101.out, (by repeat (first | (with_reducible first | exact HI0.out | apply IsS81.alloc | apply IsS81.drewN | apply IsS81.drew | apply IsS81.set_1 | apply IsS81.set_2 | refine IsS81.far ?_ NB0_101.out _ | refine IsS81.far ?_ NB0_119.out _) | exact HI0.out)), (by repeat (first | (with_reducible first | exact HK.out | apply ac_.set_ | apply ad_ | apply af_ | apply ae_ | refine ag_ ?_ GW101.out _ | refine ag_ ?_ GW119.out _) | exact HK.out)), (by repeat (first | (with_reducible first | exact HB.out | apply bA_ | apply bN_ | apply bD_ | refine ab_ ?_ (IsS81.ge HI0.out) | refine ab_ ?_ GE101.out | refine ab_ ?_ GE119.out) | exact HB.out))⟩)
            ·skip
             rintro ⟨v114, adz_v114⟩ w23 ⟨h0_, h1_, h2_, h3_, h4_, h5_, h6_, h7_⟩
             have n0_ : Aside0 (Kd.V (Kd.int .i64) 2 w23 w.heap.size (fun k_ => some k_ ≠ (.slice (some ad108) t105.length co18 : Value).ownBlock ∧ some k_ ≠ (v114 : Value).ownBlock ∧ k_ ≠ g ∧ k_ ≠ gb101) (.slice (some ad109) (rd_L4 t105 t102).length c108_0) (rd_L4 t105 t102)) := ⟨h0_⟩
             have n1_ : Aside0 (Kd.N (Kd.slice 2 (Kd.int .i64)) 22 w23 w.heap.size (fun k_ => some k_ ≠ (v114 : Value).ownBlock ∧ k_ ≠ g ∧ k_ ≠ gb101) (.slice (some ad108) t105.length co18) t105) := ⟨h1_⟩
             have n2_ : Aside0 (Kd.R Kd.string 9 w23 w.heap.size (fun _ => True) v114 t113) := ⟨h2_⟩
             have n3_ : Aside0 (∃ c_, (v114 : Value) = .slice (some adz_v114) t113.length c_) := ⟨h3_⟩
             have n4_ : Aside0 (w23.heap[gb101]? = some (.cells #[.string (⟨#[]⟩ : ByteArray), .int .i64 0, .int .i64 0] 94 (0, 0))) := ⟨h4_⟩
             have n5_ : Aside0 (IsS81 w0 w23 g s0_0 t111 t112) := ⟨h5_⟩
             have n6_ : Aside0 (ac_ w w23 g none) := ⟨h6_⟩
             have n7_ : Aside0 (Below w0.heap.size w0 w23) := ⟨h7_⟩
             clear HO107
             clear HL108_0
             clear BK101
             clear HI0
             clear HK
             clear HB
             clear h0_ h1_ h2_ h3_ h4_ h5_ h6_ h7_
             have HL108_0 := n0_
             have HO107 := n1_
             have HO115 := n2_
             have HA_HO115 := n3_
             have BK101 := n4_
             have HI0 := n5_
             have HK := n6_
             have HB := n7_
             clear n0_ n1_ n2_ n3_ n4_ n5_ n6_ n7_
             have hHeld := trivial
             obtain ⟨co24, eo24⟩ := HA_HO115.out
             clear HA_HO115
             subst eo24
             refine norm_ (a' := ?_) ?_ ?_
             rotate_left
             ·simp only [bt_, Act.put, lsa_, ls0_, ls1_]
              rfl
             refine three_ (i := 3) (j := 5) (k := 8) (Ni := some 22) (Nj := some 24) (Nk := some 5) #[t_,t_,t_,t_,t_,f_,f_,f_,f_,f_] #[t_,t_,t_,f_,t_,t_,f_,f_,f_,f_] #[t_,t_,t_,f_,t_,f_,f_,f_,t_,f_] rfl rfl rfl rfl rfl rfl (three_of HT_.out (by kernel_rfl)) (by decide) (by decide) (by decide) (fun K hK => ?_) (fun K hK => ?_) (fun K hK => ?_)
             ·skip
              (have p116 : 0 ≤ (t102 : Int) := of_decide_eq_true (by assumption); have q116 : t102 < (t113.length : Int) := of_decide_eq_true (by assumption); obtain ⟨ad116, e116, hx116_0⟩ := Kd.cc_ (Kd.aE_ HO115.out).2.2 t102 p116 q116; obtain rfl : adz_v114 = ad116 := (by injection e116))
              refine value_ (w1 := ?_) (v := ?_) (by rfl) rfl ?_ ?_
              rotate_left 2
              ·go_simp
               constructor
               ·rfl
               ·rfl
              clear hx116_0
              refine hK.out _ _ trivial (fun hHeld => ?_)
              clear hK K
              refine norm_ (a' := ?_) ?_ ?_
              rotate_left
              ·show Act.put _ (some 22) _ = _
               simp only [Act.put, lsa_, ls0_, ls1_, i64_w, i32_w]
               rfl
              exact norm_ (by first | (simp only [bt_, Act.put, lsa_, ls0_, ls1_]; done) | (simp only [bt_, Act.put, lsa_, ls0_, ls1_]; rfl)) (hJ0_3 (.slice (some adz_v114) t113.length co24, adz_v114) _ ⟨(vz HL108_0.out), (nz HO107.out), (rz HO115.out), ⟨_, rfl⟩, (kz BK101.out), (by repeat (first | (with_reducible first | exact HI0.out | apply IsS81.alloc | apply IsS81.drewN | apply IsS81.drew | apply IsS81.set_1 | apply IsS81.set_2 | refine IsS81.far ?_ NB0_101.out _) | exact HI0.out)), (by repeat (first | (with_reducible first | exact HK.out | apply ac_.set_ | apply ad_ | apply af_ | apply ae_ | refine ag_ ?_ GW101.out _) | exact HK.out)), (by repeat (first | (with_reducible first | exact HB.out | apply bA_ | apply bN_ | apply bD_ | refine ab_ ?_ (IsS81.ge HI0.out) | refine ab_ ?_ GE101.out) | exact HB.out))⟩)
             ·skip
              (first | refine goes_ Tryd.func114 (by kernel_rfl) rfl #[.int .i64 0, .int .i64 (wrap64 ((wrap64 ((rd (rd_L4 t105 t102) 0) + t110)) - 10))] (by rfl) rfl rfl (by first | rfl | (simp only [lma_, lmc_, lmn_]; first | done | rfl)) ?_ | refine RPW.cj_ Tryd.func114 (by kernel_rfl) rfl #[.int .i64 0, .int .i64 (wrap64 ((wrap64 ((rd (rd_L4 t105 t102) 0) + t110)) - 10))] (by rfl) rfl rfl rfl (by first | rfl | (simp only [lma_, lmc_, lmn_]; first | done | rfl)) ?_ | refine RPW.ci_ Tryd.func114 (by kernel_rfl) rfl #[.int .i64 0, .int .i64 (wrap64 ((wrap64 ((rd (rd_L4 t105 t102) 0) + t110)) - 10))] (by rfl) rfl rfl rfl (by first | rfl | (simp only [lma_, lmc_, lmn_]; first | done | rfl)) ?_)
              with_reducible refine (cr_.calls 0 (wrap64 ((wrap64 ((rd (rd_L4 t105 t102) 0) + t110)) - 10)) t117 _ A10.out).mono ?_
              rintro e w' ⟨rfl, ⟨nd, rfl⟩⟩
              refine ⟨_, rfl, ?_⟩
              refine hK.out _ _ trivial (fun hHeld => ?_)
              clear hK K
              refine norm_ (a' := ?_) ?_ ?_
              rotate_left
              ·show Act.put _ (some 24) _ = _
               simp only [Act.put, lsa_, ls0_, ls1_, i64_w, i32_w]
               rfl
              exact norm_ (by first | (simp only [bt_, Act.put, lsa_, ls0_, ls1_]; done) | (simp only [bt_, Act.put, lsa_, ls0_, ls1_]; rfl)) (hJ0_5 (.slice (some adz_v114) t113.length co24, adz_v114) _ ⟨(vz HL108_0.out), (nz HO107.out), (rz HO115.out), ⟨_, rfl⟩, (kz BK101.out), (by repeat (first | (with_reducible first | exact HI0.out | apply IsS81.alloc | apply IsS81.drewN | apply IsS81.drew | apply IsS81.set_1 | apply IsS81.set_2 | refine IsS81.far ?_ NB0_101.out _) | exact HI0.out)), (by repeat (first | (with_reducible first | exact HK.out | apply ac_.set_ | apply ad_ | apply af_ | apply ae_ | refine ag_ ?_ GW101.out _) | exact HK.out)), (by repeat (first | (with_reducible first | exact HB.out | apply bA_ | apply bN_ | apply bD_ | refine ab_ ?_ (IsS81.ge HI0.out) | refine ab_ ?_ GE101.out) | exact HB.out))⟩)
             ·skip
              refine de_ ?hg (N := 5) ?hd (cs := #[.string (⟨#[]⟩ : ByteArray), .int .i64 0, .int .i64 0]) (t := 94) ?hr ?_; (case hd => rfl); (case hg => rfl); (case hr => (go_simp; try rfl))
              intro gb119 hg w25 hbox hb
              have n0_ := Aside0.mk (Kd.N_below (Kd.N_elderB (nz HO107.out) gb119 (Nat.le_of_eq hg.symm)) hb)
              have n1_ := Aside0.mk (Kd.V_below (Kd.V_elderB (vz HL108_0.out) gb119 (Nat.le_of_eq hg.symm)) hb)
              have n2_ := Aside0.mk (Kd.bI_ (rz HO115.out) hb)
              have n3_ := Aside0.mk (IsS81.below (by repeat (first | (with_reducible first | exact HI0.out | apply IsS81.alloc | apply IsS81.drewN | apply IsS81.drew | apply IsS81.set_1 | apply IsS81.set_2 | refine IsS81.far ?_ NB0_101.out _) | exact HI0.out)) hb)
              have n4_ := Aside0.mk (az_ (kz BK101.out) hb)
              have n5_ := Aside0.mk (ac_.trans (by repeat (first | (with_reducible first | exact HK.out | apply ac_.set_ | apply ad_ | apply af_ | apply ae_ | refine ag_ ?_ GW101.out _) | exact HK.out)) (ac_.of_below hb g none) (.inl rfl))
              have n6_ := Aside0.mk (ah_ (by repeat (first | (with_reducible first | exact HB.out | apply bA_ | apply bN_ | apply bD_ | refine ab_ ?_ (IsS81.ge HI0.out) | refine ab_ ?_ GE101.out) | exact HB.out)) hb)
              have n7_ := Aside0.mk (hbox)
              have n8_ := Aside0.mk ((by rw [hg]; exact (aZ_ (w := w) (g := g) (row := none) (by repeat (first | (with_reducible first | exact HK.out | apply ac_.set_ | apply ad_ | apply af_ | apply ae_ | refine ag_ ?_ GW101.out _) | exact HK.out))) : w.heap.size ≤ gb119))
              have n9_ := Aside0.mk ((Nat.le_trans HW0.out (by rw [hg]; exact (aZ_ (w := w) (g := g) (row := none) (by repeat (first | (with_reducible first | exact HK.out | apply ac_.set_ | apply ad_ | apply af_ | apply ae_ | refine ag_ ?_ GW101.out _) | exact HK.out))) : w.heap.size ≤ gb119) : w0.heap.size ≤ gb119))
              have n10_ := Aside0.mk ((by rw [hg]; exact Nat.ne_of_lt (bX_ (kz BK101.out)) : gb101 ≠ gb119))
              have n11_ := Aside0.mk ((by rw [hg]; exact Nat.ne_of_gt (bX_ (kz BK101.out)) : gb119 ≠ gb101))
              have n12_ := Aside0.mk ((by rw [hg]; exact Nat.ne_of_lt (IsS81.lt (show IsS81 w0 _ g s0_0 t111 t112 from by repeat (first | (with_reducible first | exact HI0.out | apply IsS81.alloc | apply IsS81.drewN | apply IsS81.drew | apply IsS81.set_1 | apply IsS81.set_2 | refine IsS81.far ?_ NB0_101.out _) | exact HI0.out))) : g ≠ gb119))
              have n13_ := Aside0.mk ((by rw [hg]; exact Nat.ne_of_gt (IsS81.lt (show IsS81 w0 _ g s0_0 t111 t112 from by repeat (first | (with_reducible first | exact HI0.out | apply IsS81.alloc | apply IsS81.drewN | apply IsS81.drew | apply IsS81.set_1 | apply IsS81.set_2 | refine IsS81.far ?_ NB0_101.out _) | exact HI0.out))) : gb119 ≠ g))
              clear HO107
              clear HL108_0
              clear HO115
              clear HI0
              clear BK101
              clear HK
              clear HB
              have HO107 := n0_
              have HL108_0 := n1_
              have HO115 := n2_
              have HI0 := n3_
              have BK101 := n4_
              have HK := n5_
              have HB := n6_
              have BK119 := n7_
              have GW119 := n8_
              have GE119 := n9_
              have NB101_119 := n10_
              have NB119_101 := n11_
              have NB0_119 := n12_
              have NB119_0 := n13_
              clear n0_ n1_ n2_ n3_ n4_ n5_ n6_ n7_ n8_ n9_ n10_ n11_ n12_ n13_
              clear hb hbox hg
              refine hK.out _ _ trivial (fun hHeld => ?_)
              clear hK K
              refine norm_ (a' := ?_) ?_ ?_
              rotate_left
              ·show Act.put _ (some 5) _ = _
               simp only [Act.put, lsa_, ls0_, ls1_, i64_w, i32_w]
               rfl
              exact norm_ (by first | (simp only [bt_, Act.put, lsa_, ls0_, ls1_]; done) | (simp only [bt_, Act.put, lsa_, ls0_, ls1_]; rfl)) (hJ0_8 (.slice (some adz_v114) t113.length co24, adz_v114, gb119) _ ⟨(vz (Kd.db_ HL108_0.out (fun _ hk => ⟨hk.1.1, ⟨hk.1.2.1, ⟨hk.1.2.2.1, ⟨hk.1.2.2.2, hk.2⟩⟩⟩⟩))), (nz (Kd.cQ_ HO107.out (fun _ hk => ⟨hk.1.1, ⟨hk.1.2.1, ⟨hk.1.2.2, hk.2⟩⟩⟩))), (rz HO115.out), ⟨_, rfl⟩, (kz BK101.out), (kz BK119.out), GW119.out, GE119.out, NB0_119.out, NB119_0.out, NB101_119.out, NB119_101.out, (by repeat (first | (with_reducible first | exact HI0.out | apply IsS81.alloc | apply IsS81.drewN | apply IsS81.drew | apply IsS81.set_1 | apply IsS81.set_2 | refine IsS81.far ?_ NB0_101.out _ | refine IsS81.far ?_ NB0_119.out _) | exact HI0.out)), (by repeat (first | (with_reducible first | exact HK.out | apply ac_.set_ | apply ad_ | apply af_ | apply ae_ | refine ag_ ?_ GW101.out _ | refine ag_ ?_ GW119.out _) | exact HK.out)), (by repeat (first | (with_reducible first | exact HB.out | apply bA_ | apply bN_ | apply bD_ | refine ab_ ?_ (IsS81.ge HI0.out) | refine ab_ ?_ GE101.out | refine ab_ ?_ GE119.out) | exact HB.out))⟩)
           ·skip
            rintro ⟨v114, adz_v114, gb119⟩ w24 ⟨h0_, h1_, h2_, h3_, h4_, h5_, h6_, h7_, h8_, h9_, h10_, h11_, h12_, h13_, h14_⟩
            have n0_ : Aside0 (Kd.V (Kd.int .i64) 2 w24 w.heap.size (fun k_ => some k_ ≠ (.slice (some ad108) t105.length co18 : Value).ownBlock ∧ some k_ ≠ (v114 : Value).ownBlock ∧ k_ ≠ g ∧ k_ ≠ gb101 ∧ k_ ≠ gb119) (.slice (some ad109) (rd_L4 t105 t102).length c108_0) (rd_L4 t105 t102)) := ⟨h0_⟩
            have n1_ : Aside0 (Kd.N (Kd.slice 2 (Kd.int .i64)) 22 w24 w.heap.size (fun k_ => some k_ ≠ (v114 : Value).ownBlock ∧ k_ ≠ g ∧ k_ ≠ gb101 ∧ k_ ≠ gb119) (.slice (some ad108) t105.length co18) t105) := ⟨h1_⟩
            have n2_ : Aside0 (Kd.R Kd.string 9 w24 w.heap.size (fun _ => True) v114 t113) := ⟨h2_⟩
            have n3_ : Aside0 (∃ c_, (v114 : Value) = .slice (some adz_v114) t113.length c_) := ⟨h3_⟩
            have n4_ : Aside0 (w24.heap[gb101]? = some (.cells #[.string (⟨#[]⟩ : ByteArray), .int .i64 0, .int .i64 0] 94 (0, 0))) := ⟨h4_⟩
            have n5_ : Aside0 (w24.heap[gb119]? = some (.cells #[.string (⟨#[]⟩ : ByteArray), .int .i64 0, .int .i64 0] 94 (0, 0))) := ⟨h5_⟩
            have n6_ : Aside0 (w.heap.size ≤ gb119) := ⟨h6_⟩
            have n7_ : Aside0 (w0.heap.size ≤ gb119) := ⟨h7_⟩
            have n8_ : Aside0 (g ≠ gb119) := ⟨h8_⟩
            have n9_ : Aside0 (gb119 ≠ g) := ⟨h9_⟩
            have n10_ : Aside0 (gb101 ≠ gb119) := ⟨h10_⟩
            have n11_ : Aside0 (gb119 ≠ gb101) := ⟨h11_⟩
            have n12_ : Aside0 (IsS81 w0 w24 g s0_0 t111 t112) := ⟨h12_⟩
            have n13_ : Aside0 (ac_ w w24 g none) := ⟨h13_⟩
            have n14_ : Aside0 (Below w0.heap.size w0 w24) := ⟨h14_⟩
            clear HO107
            clear HL108_0
            clear BK101
            clear HI0
            clear HK
            clear HB
            clear h0_ h1_ h2_ h3_ h4_ h5_ h6_ h7_ h8_ h9_ h10_ h11_ h12_ h13_ h14_
            have HL108_0 := n0_
            have HO107 := n1_
            have HO115 := n2_
            have HA_HO115 := n3_
            have BK101 := n4_
            have BK119 := n5_
            have GW119 := n6_
            have GE119 := n7_
            have NB0_119 := n8_
            have NB119_0 := n9_
            have NB101_119 := n10_
            have NB119_101 := n11_
            have HI0 := n12_
            have HK := n13_
            have HB := n14_
            clear n0_ n1_ n2_ n3_ n4_ n5_ n6_ n7_ n8_ n9_ n10_ n11_ n12_ n13_ n14_
            have hHeld := trivial
            obtain ⟨co25, eo25⟩ := HA_HO115.out
            clear HA_HO115
            subst eo25
            refine norm_ (a' := ?_) ?_ ?_
            rotate_left
            ·simp only [bt_, Act.put, lsa_, ls0_, ls1_]
             rfl
            refine two_ (i := 3) (j := 5) (Ni := some 22) (Nj := some 24) #[t_,t_,t_,t_,t_,f_,f_,f_,t_,f_] #[t_,t_,t_,f_,t_,t_,f_,f_,t_,f_] rfl rfl rfl rfl (two_of HT_.out (by kernel_rfl)) (by decide) (by decide) (fun K hK => ?_) (fun K hK => ?_)
            ·skip
             (have p116 : 0 ≤ (t102 : Int) := of_decide_eq_true (by assumption); have q116 : t102 < (t113.length : Int) := of_decide_eq_true (by assumption); obtain ⟨ad116, e116, hx116_0⟩ := Kd.cc_ (Kd.aE_ HO115.out).2.2 t102 p116 q116; obtain rfl : adz_v114 = ad116 := (by injection e116))
             refine value_ (w1 := ?_) (v := ?_) (by rfl) rfl ?_ ?_
             rotate_left 2
             ·go_simp
              constructor
              ·rfl
              ·rfl
             clear hx116_0
             refine hK.out _ _ trivial (fun hHeld => ?_)
             clear hK K
             refine norm_ (a' := ?_) ?_ ?_
             rotate_left
             ·show Act.put _ (some 22) _ = _
              simp only [Act.put, lsa_, ls0_, ls1_, i64_w, i32_w]
              rfl
             exact norm_ (by first | (simp only [bt_, Act.put, lsa_, ls0_, ls1_]; done) | (simp only [bt_, Act.put, lsa_, ls0_, ls1_]; rfl)) (hJ0_3_8 (.slice (some adz_v114) t113.length co25, adz_v114, gb119) _ ⟨(vz HL108_0.out), (nz HO107.out), (rz HO115.out), ⟨_, rfl⟩, (kz BK101.out), (kz BK119.out), GW119.out, GE119.out, NB0_119.out, NB119_0.out, NB101_119.out, NB119_101.out, (by repeat (first | (with_reducible first | exact HI0.out | apply IsS81.alloc | apply IsS81.drewN | apply IsS81.drew | apply IsS81.set_1 | apply IsS81.set_2 | refine IsS81.far ?_ NB0_101.out _ | refine IsS81.far ?_ NB0_119.out _) | exact HI0.out)), (by repeat (first | (with_reducible first | exact HK.out | apply ac_.set_ | apply ad_ | apply af_ | apply ae_ | refine ag_ ?_ GW101.out _ | refine ag_ ?_ GW119.out _) | exact HK.out)), (by repeat (first | (with_reducible first | exact HB.out | apply bA_ | apply bN_ | apply bD_ | refine ab_ ?_ (IsS81.ge HI0.out) | refine ab_ ?_ GE101.out | refine ab_ ?_ GE119.out) | exact HB.out))⟩)
            ·skip
             (first | refine goes_ Tryd.func114 (by kernel_rfl) rfl #[.int .i64 0, .int .i64 (wrap64 ((wrap64 ((rd (rd_L4 t105 t102) 0) + t110)) - 10))] (by rfl) rfl rfl (by first | rfl | (simp only [lma_, lmc_, lmn_]; first | done | rfl)) ?_ | refine RPW.cj_ Tryd.func114 (by kernel_rfl) rfl #[.int .i64 0, .int .i64 (wrap64 ((wrap64 ((rd (rd_L4 t105 t102) 0) + t110)) - 10))] (by rfl) rfl rfl rfl (by first | rfl | (simp only [lma_, lmc_, lmn_]; first | done | rfl)) ?_ | refine RPW.ci_ Tryd.func114 (by kernel_rfl) rfl #[.int .i64 0, .int .i64 (wrap64 ((wrap64 ((rd (rd_L4 t105 t102) 0) + t110)) - 10))] (by rfl) rfl rfl rfl (by first | rfl | (simp only [lma_, lmc_, lmn_]; first | done | rfl)) ?_)
             with_reducible refine (cr_.calls 0 (wrap64 ((wrap64 ((rd (rd_L4 t105 t102) 0) + t110)) - 10)) t117 _ A10.out).mono ?_
             rintro e w' ⟨rfl, ⟨nd, rfl⟩⟩
             refine ⟨_, rfl, ?_⟩
             refine hK.out _ _ trivial (fun hHeld => ?_)
             clear hK K
             refine norm_ (a' := ?_) ?_ ?_
             rotate_left
             ·show Act.put _ (some 24) _ = _
              simp only [Act.put, lsa_, ls0_, ls1_, i64_w, i32_w]
              rfl
             exact norm_ (by first | (simp only [bt_, Act.put, lsa_, ls0_, ls1_]; done) | (simp only [bt_, Act.put, lsa_, ls0_, ls1_]; rfl)) (hJ0_5_8 (.slice (some adz_v114) t113.length co25, adz_v114, gb119) _ ⟨(vz HL108_0.out), (nz HO107.out), (rz HO115.out), ⟨_, rfl⟩, (kz BK101.out), (kz BK119.out), GW119.out, GE119.out, NB0_119.out, NB119_0.out, NB101_119.out, NB119_101.out, (by repeat (first | (with_reducible first | exact HI0.out | apply IsS81.alloc | apply IsS81.drewN | apply IsS81.drew | apply IsS81.set_1 | apply IsS81.set_2 | refine IsS81.far ?_ NB0_101.out _ | refine IsS81.far ?_ NB0_119.out _) | exact HI0.out)), (by repeat (first | (with_reducible first | exact HK.out | apply ac_.set_ | apply ad_ | apply af_ | apply ae_ | refine ag_ ?_ GW101.out _ | refine ag_ ?_ GW119.out _) | exact HK.out)), (by repeat (first | (with_reducible first | exact HB.out | apply bA_ | apply bN_ | apply bD_ | refine ab_ ?_ (IsS81.ge HI0.out) | refine ab_ ?_ GE101.out | refine ab_ ?_ GE119.out) | exact HB.out))⟩)
          ·skip
           rintro ⟨v114, adz_v114⟩ w23 ⟨h0_, h1_, h2_, h3_, h4_, h5_, h6_, h7_⟩
           have n0_ : Aside0 (Kd.V (Kd.int .i64) 2 w23 w.heap.size (fun k_ => some k_ ≠ (.slice (some ad108) t105.length co18 : Value).ownBlock ∧ some k_ ≠ (v114 : Value).ownBlock ∧ k_ ≠ g ∧ k_ ≠ gb101) (.slice (some ad109) (rd_L4 t105 t102).length c108_0) (rd_L4 t105 t102)) := ⟨h0_⟩
           have n1_ : Aside0 (Kd.N (Kd.slice 2 (Kd.int .i64)) 22 w23 w.heap.size (fun k_ => some k_ ≠ (v114 : Value).ownBlock ∧ k_ ≠ g ∧ k_ ≠ gb101) (.slice (some ad108) t105.length co18) t105) := ⟨h1_⟩
           have n2_ : Aside0 (Kd.R Kd.string 9 w23 w.heap.size (fun _ => True) v114 t113) := ⟨h2_⟩
           have n3_ : Aside0 (∃ c_, (v114 : Value) = .slice (some adz_v114) t113.length c_) := ⟨h3_⟩
           have n4_ : Aside0 (w23.heap[gb101]? = some (.cells #[.string (⟨#[]⟩ : ByteArray), .int .i64 0, .int .i64 0] 94 (0, 0))) := ⟨h4_⟩
           have n5_ : Aside0 (IsS81 w0 w23 g s0_0 t111 t112) := ⟨h5_⟩
           have n6_ : Aside0 (ac_ w w23 g none) := ⟨h6_⟩
           have n7_ : Aside0 (Below w0.heap.size w0 w23) := ⟨h7_⟩
           clear HO107
           clear HL108_0
           clear BK101
           clear HI0
           clear HK
           clear HB
           clear h0_ h1_ h2_ h3_ h4_ h5_ h6_ h7_
           have HL108_0 := n0_
           have HO107 := n1_
           have HO115 := n2_
           have HA_HO115 := n3_
           have BK101 := n4_
           have HI0 := n5_
           have HK := n6_
           have HB := n7_
           clear n0_ n1_ n2_ n3_ n4_ n5_ n6_ n7_
           have hHeld := trivial
           obtain ⟨co24, eo24⟩ := HA_HO115.out
           clear HA_HO115
           subst eo24
           refine norm_ (a' := ?_) ?_ ?_
           rotate_left
           ·simp only [bt_, Act.put, lsa_, ls0_, ls1_]
            rfl
           refine three_ (i := 3) (j := 6) (k := 8) (Ni := some 22) (Nj := some 25) (Nk := some 5) #[t_,t_,t_,t_,t_,t_,f_,f_,f_,f_] #[t_,t_,t_,f_,t_,t_,t_,f_,f_,f_] #[t_,t_,t_,f_,t_,t_,f_,f_,t_,f_] rfl rfl rfl rfl rfl rfl (three_of HT_.out (by kernel_rfl)) (by decide) (by decide) (by decide) (fun K hK => ?_) (fun K hK => ?_) (fun K hK => ?_)
           ·skip
            (have p116 : 0 ≤ (t102 : Int) := of_decide_eq_true (by assumption); have q116 : t102 < (t113.length : Int) := of_decide_eq_true (by assumption); obtain ⟨ad116, e116, hx116_0⟩ := Kd.cc_ (Kd.aE_ HO115.out).2.2 t102 p116 q116; obtain rfl : adz_v114 = ad116 := (by injection e116))
            refine value_ (w1 := ?_) (v := ?_) (by rfl) rfl ?_ ?_
            rotate_left 2
            ·go_simp
             constructor
             ·rfl
             ·rfl
            clear hx116_0
            refine hK.out _ _ trivial (fun hHeld => ?_)
            clear hK K
            refine norm_ (a' := ?_) ?_ ?_
            rotate_left
            ·show Act.put _ (some 22) _ = _
             simp only [Act.put, lsa_, ls0_, ls1_, i64_w, i32_w]
             rfl
            exact norm_ (by first | (simp only [bt_, Act.put, lsa_, ls0_, ls1_]; done) | (simp only [bt_, Act.put, lsa_, ls0_, ls1_]; rfl)) (hJ0_3_5 (.slice (some adz_v114) t113.length co24, adz_v114) _ ⟨(vz HL108_0.out), (nz HO107.out), (rz HO115.out), ⟨_, rfl⟩, (kz BK101.out), (by repeat (first | (with_reducible first | exact HI0.out | apply IsS81.alloc | apply IsS81.drewN | apply IsS81.drew | apply IsS81.set_1 | apply IsS81.set_2 | refine IsS81.far ?_ NB0_101.out _) | exact HI0.out)), (by repeat (first | (with_reducible first | exact HK.out | apply ac_.set_ | apply ad_ | apply af_ | apply ae_ | refine ag_ ?_ GW101.out _) | exact HK.out)), (by repeat (first | (with_reducible first | exact HB.out | apply bA_ | apply bN_ | apply bD_ | refine ab_ ?_ (IsS81.ge HI0.out) | refine ab_ ?_ GE101.out) | exact HB.out))⟩)
           ·skip
            (first | refine goes_ Tryd.func113 (by kernel_rfl) rfl #[.int .i64 100, .int .i64 t117] (by rfl) rfl rfl (by first | rfl | (simp only [lma_, lmc_, lmn_]; first | done | rfl)) ?_ | refine RPW.cj_ Tryd.func113 (by kernel_rfl) rfl #[.int .i64 100, .int .i64 t117] (by rfl) rfl rfl rfl (by first | rfl | (simp only [lma_, lmc_, lmn_]; first | done | rfl)) ?_ | refine RPW.ci_ Tryd.func113 (by kernel_rfl) rfl #[.int .i64 100, .int .i64 t117] (by rfl) rfl rfl rfl (by first | rfl | (simp only [lma_, lmc_, lmn_]; first | done | rfl)) ?_)
            with_reducible refine (bS_.calls 100 t117 t118 _ A11.out).mono ?_
            rintro e w' ⟨rfl, ⟨nd, rfl⟩⟩
            refine ⟨_, rfl, ?_⟩
            refine hK.out _ _ trivial (fun hHeld => ?_)
            clear hK K
            refine norm_ (a' := ?_) ?_ ?_
            rotate_left
            ·show Act.put _ (some 25) _ = _
             simp only [Act.put, lsa_, ls0_, ls1_, i64_w, i32_w]
             rfl
            exact norm_ (by first | (simp only [bt_, Act.put, lsa_, ls0_, ls1_]; done) | (simp only [bt_, Act.put, lsa_, ls0_, ls1_]; rfl)) (hJ0_5_6 (.slice (some adz_v114) t113.length co24, adz_v114) _ ⟨(vz HL108_0.out), (nz HO107.out), (rz HO115.out), ⟨_, rfl⟩, (kz BK101.out), (by repeat (first | (with_reducible first | exact HI0.out | apply IsS81.alloc | apply IsS81.drewN | apply IsS81.drew | apply IsS81.set_1 | apply IsS81.set_2 | refine IsS81.far ?_ NB0_101.out _) | exact HI0.out)), (by repeat (first | (with_reducible first | exact HK.out | apply ac_.set_ | apply ad_ | apply af_ | apply ae_ | refine ag_ ?_ GW101.out _) | exact HK.out)), (by repeat (first | (with_reducible first | exact HB.out | apply bA_ | apply bN_ | apply bD_ | refine ab_ ?_ (IsS81.ge HI0.out) | refine ab_ ?_ GE101.out) | exact HB.out))⟩)
           ·skip
            refine de_ ?hg (N := 5) ?hd (cs := #[.string (⟨#[]⟩ : ByteArray), .int .i64 0, .int .i64 0]) (t := 94) ?hr ?_; (case hd => rfl); (case hg => rfl); (case hr => (go_simp; try rfl))
            intro gb119 hg w25 hbox hb
            have n0_ := Aside0.mk (Kd.N_below (Kd.N_elderB (nz HO107.out) gb119 (Nat.le_of_eq hg.symm)) hb)
            have n1_ := Aside0.mk (Kd.V_below (Kd.V_elderB (vz HL108_0.out) gb119 (Nat.le_of_eq hg.symm)) hb)
            have n2_ := Aside0.mk (Kd.bI_ (rz HO115.out) hb)
            have n3_ := Aside0.mk (IsS81.below (by repeat (first | (with_reducible first | exact HI0.out | apply IsS81.alloc | apply IsS81.drewN | apply IsS81.drew | apply IsS81.set_1 | apply IsS81.set_2 | refine IsS81.far ?_ NB0_101.out _) | exact HI0.out)) hb)
            have n4_ := Aside0.mk (az_ (kz BK101.out) hb)
            have n5_ := Aside0.mk (ac_.trans (by repeat (first | (with_reducible first | exact HK.out | apply ac_.set_ | apply ad_ | apply af_ | apply ae_ | refine ag_ ?_ GW101.out _) | exact HK.out)) (ac_.of_below hb g none) (.inl rfl))
            have n6_ := Aside0.mk (ah_ (by repeat (first | (with_reducible first | exact HB.out | apply bA_ | apply bN_ | apply bD_ | refine ab_ ?_ (IsS81.ge HI0.out) | refine ab_ ?_ GE101.out) | exact HB.out)) hb)
            have n7_ := Aside0.mk (hbox)
            have n8_ := Aside0.mk ((by rw [hg]; exact (aZ_ (w := w) (g := g) (row := none) (by repeat (first | (with_reducible first | exact HK.out | apply ac_.set_ | apply ad_ | apply af_ | apply ae_ | refine ag_ ?_ GW101.out _) | exact HK.out))) : w.heap.size ≤ gb119))
            have n9_ := Aside0.mk ((Nat.le_trans HW0.out (by rw [hg]; exact (aZ_ (w := w) (g := g) (row := none) (by repeat (first | (with_reducible first | exact HK.out | apply ac_.set_ | apply ad_ | apply af_ | apply ae_ | refine ag_ ?_ GW101.out _) | exact HK.out))) : w.heap.size ≤ gb119) : w0.heap.size ≤ gb119))
            have n10_ := Aside0.mk ((by rw [hg]; exact Nat.ne_of_lt (bX_ (kz BK101.out)) : gb101 ≠ gb119))
            have n11_ := Aside0.mk ((by rw [hg]; exact Nat.ne_of_gt (bX_ (kz BK101.out)) : gb119 ≠ gb101))
            have n12_ := Aside0.mk ((by rw [hg]; exact Nat.ne_of_lt (IsS81.lt (show IsS81 w0 _ g s0_0 t111 t112 from by repeat (first | (with_reducible first | exact HI0.out | apply IsS81.alloc | apply IsS81.drewN | apply IsS81.drew | apply IsS81.set_1 | apply IsS81.set_2 | refine IsS81.far ?_ NB0_101.out _) | exact HI0.out))) : g ≠ gb119))
            have n13_ := Aside0.mk ((by rw [hg]; exact Nat.ne_of_gt (IsS81.lt (show IsS81 w0 _ g s0_0 t111 t112 from by repeat (first | (with_reducible first | exact HI0.out | apply IsS81.alloc | apply IsS81.drewN | apply IsS81.drew | apply IsS81.set_1 | apply IsS81.set_2 | refine IsS81.far ?_ NB0_101.out _) | exact HI0.out))) : gb119 ≠ g))
            clear HO107
            clear HL108_0
            clear HO115
            clear HI0
            clear BK101
            clear HK
            clear HB
            have HO107 := n0_
            have HL108_0 := n1_
            have HO115 := n2_
            have HI0 := n3_
            have BK101 := n4_
            have HK := n5_
            have HB := n6_
            have BK119 := n7_
            have GW119 := n8_
            have GE119 := n9_
            have NB101_119 := n10_
            have NB119_101 := n11_
            have NB0_119 := n12_
            have NB119_0 := n13_
            clear n0_ n1_ n2_ n3_ n4_ n5_ n6_ n7_ n8_ n9_ n10_ n11_ n12_ n13_
            clear hb hbox hg
            refine hK.out _ _ trivial (fun hHeld => ?_)
            clear hK K
            refine norm_ (a' := ?_) ?_ ?_
            rotate_left
            ·show Act.put _ (some 5) _ = _
             simp only [Act.put, lsa_, ls0_, ls1_, i64_w, i32_w]
             rfl
            exact norm_ (by first | (simp only [bt_, Act.put, lsa_, ls0_, ls1_]; done) | (simp only [bt_, Act.put, lsa_, ls0_, ls1_]; rfl)) (hJ0_5_8 (.slice (some adz_v114) t113.length co24, adz_v114, gb119) _ ⟨(vz (Kd.db_ HL108_0.out (fun _ hk => ⟨hk.1.1, ⟨hk.1.2.1, ⟨hk.1.2.2.1, ⟨hk.1.2.2.2, hk.2⟩⟩⟩⟩))), (nz (Kd.cQ_ HO107.out (fun _ hk => ⟨hk.1.1, ⟨hk.1.2.1, ⟨hk.1.2.2, hk.2⟩⟩⟩))), (rz HO115.out), ⟨_, rfl⟩, (kz BK101.out), (kz BK119.out), GW119.out, GE119.out, NB0_119.out, NB119_0.out, NB101_119.out, NB119_101.out, (by repeat (first | (with_reducible first | exact HI0.out | apply IsS81.alloc | apply IsS81.drewN | apply IsS81.drew | apply IsS81.set_1 | apply IsS81.set_2 | refine IsS81.far ?_ NB0_101.out _ | refine IsS81.far ?_ NB0_119.out _) | exact HI0.out)), (by repeat (first | (with_reducible first | exact HK.out | apply ac_.set_ | apply ad_ | apply af_ | apply ae_ | refine ag_ ?_ GW101.out _ | refine ag_ ?_ GW119.out _) | exact HK.out)), (by repeat (first | (with_reducible first | exact HB.out | apply bA_ | apply bN_ | apply bD_ | refine ab_ ?_ (IsS81.ge HI0.out) | refine ab_ ?_ GE101.out | refine ab_ ?_ GE119.out) | exact HB.out))⟩)
         ·skip
          rintro ⟨v114, adz_v114⟩ w23 ⟨h0_, h1_, h2_, h3_, h4_, h5_, h6_, h7_⟩
          have n0_ : Aside0 (Kd.V (Kd.int .i64) 2 w23 w.heap.size (fun k_ => some k_ ≠ (.slice (some ad108) t105.length co18 : Value).ownBlock ∧ some k_ ≠ (v114 : Value).ownBlock ∧ k_ ≠ g ∧ k_ ≠ gb101) (.slice (some ad109) (rd_L4 t105 t102).length c108_0) (rd_L4 t105 t102)) := ⟨h0_⟩
          have n1_ : Aside0 (Kd.N (Kd.slice 2 (Kd.int .i64)) 22 w23 w.heap.size (fun k_ => some k_ ≠ (v114 : Value).ownBlock ∧ k_ ≠ g ∧ k_ ≠ gb101) (.slice (some ad108) t105.length co18) t105) := ⟨h1_⟩
          have n2_ : Aside0 (Kd.R Kd.string 9 w23 w.heap.size (fun _ => True) v114 t113) := ⟨h2_⟩
          have n3_ : Aside0 (∃ c_, (v114 : Value) = .slice (some adz_v114) t113.length c_) := ⟨h3_⟩
          have n4_ : Aside0 (w23.heap[gb101]? = some (.cells #[.string (⟨#[]⟩ : ByteArray), .int .i64 0, .int .i64 0] 94 (0, 0))) := ⟨h4_⟩
          have n5_ : Aside0 (IsS81 w0 w23 g s0_0 t111 t112) := ⟨h5_⟩
          have n6_ : Aside0 (ac_ w w23 g none) := ⟨h6_⟩
          have n7_ : Aside0 (Below w0.heap.size w0 w23) := ⟨h7_⟩
          clear HO107
          clear HL108_0
          clear BK101
          clear HI0
          clear HK
          clear HB
          clear h0_ h1_ h2_ h3_ h4_ h5_ h6_ h7_
          have HL108_0 := n0_
          have HO107 := n1_
          have HO115 := n2_
          have HA_HO115 := n3_
          have BK101 := n4_
          have HI0 := n5_
          have HK := n6_
          have HB := n7_
          clear n0_ n1_ n2_ n3_ n4_ n5_ n6_ n7_
          have hHeld := trivial
          obtain ⟨co24, eo24⟩ := HA_HO115.out
          clear HA_HO115
          subst eo24
          refine norm_ (a' := ?_) ?_ ?_
          rotate_left
          ·simp only [bt_, Act.put, lsa_, ls0_, ls1_]
           rfl
          refine two_ (i := 5) (j := 8) (Ni := some 24) (Nj := some 5) #[t_,t_,t_,t_,t_,t_,f_,f_,f_,f_] #[t_,t_,t_,t_,t_,f_,f_,f_,t_,f_] rfl rfl rfl rfl (two_of HT_.out (by kernel_rfl)) (by decide) (by decide) (fun K hK => ?_) (fun K hK => ?_)
          ·skip
           (first | refine goes_ Tryd.func114 (by kernel_rfl) rfl #[.int .i64 0, .int .i64 (wrap64 ((wrap64 ((rd (rd_L4 t105 t102) 0) + t110)) - 10))] (by rfl) rfl rfl (by first | rfl | (simp only [lma_, lmc_, lmn_]; first | done | rfl)) ?_ | refine RPW.cj_ Tryd.func114 (by kernel_rfl) rfl #[.int .i64 0, .int .i64 (wrap64 ((wrap64 ((rd (rd_L4 t105 t102) 0) + t110)) - 10))] (by rfl) rfl rfl rfl (by first | rfl | (simp only [lma_, lmc_, lmn_]; first | done | rfl)) ?_ | refine RPW.ci_ Tryd.func114 (by kernel_rfl) rfl #[.int .i64 0, .int .i64 (wrap64 ((wrap64 ((rd (rd_L4 t105 t102) 0) + t110)) - 10))] (by rfl) rfl rfl rfl (by first | rfl | (simp only [lma_, lmc_, lmn_]; first | done | rfl)) ?_)
           with_reducible refine (cr_.calls 0 (wrap64 ((wrap64 ((rd (rd_L4 t105 t102) 0) + t110)) - 10)) t117 _ A10.out).mono ?_
           rintro e w' ⟨rfl, ⟨nd, rfl⟩⟩
           refine ⟨_, rfl, ?_⟩
           refine hK.out _ _ trivial (fun hHeld => ?_)
           clear hK K
           refine norm_ (a' := ?_) ?_ ?_
           rotate_left
           ·show Act.put _ (some 24) _ = _
            simp only [Act.put, lsa_, ls0_, ls1_, i64_w, i32_w]
            rfl
           exact norm_ (by first | (simp only [bt_, Act.put, lsa_, ls0_, ls1_]; done) | (simp only [bt_, Act.put, lsa_, ls0_, ls1_]; rfl)) (hJ0_3_5 (.slice (some adz_v114) t113.length co24, adz_v114) _ ⟨(vz HL108_0.out), (nz HO107.out), (rz HO115.out), ⟨_, rfl⟩, (kz BK101.out), (by repeat (first | (with_reducible first | exact HI0.out | apply IsS81.alloc | apply IsS81.drewN | apply IsS81.drew | apply IsS81.set_1 | apply IsS81.set_2 | refine IsS81.far ?_ NB0_101.out _) | exact HI0.out)), (by repeat (first | (with_reducible first | exact HK.out | apply ac_.set_ | apply ad_ | apply af_ | apply ae_ | refine ag_ ?_ GW101.out _) | exact HK.out)), (by repeat (first | (with_reducible first | exact HB.out | apply bA_ | apply bN_ | apply bD_ | refine ab_ ?_ (IsS81.ge HI0.out) | refine ab_ ?_ GE101.out) | exact HB.out))⟩)
          ·skip
           refine de_ ?hg (N := 5) ?hd (cs := #[.string (⟨#[]⟩ : ByteArray), .int .i64 0, .int .i64 0]) (t := 94) ?hr ?_; (case hd => rfl); (case hg => rfl); (case hr => (go_simp; try rfl))
           intro gb119 hg w25 hbox hb
           have n0_ := Aside0.mk (Kd.N_below (Kd.N_elderB (nz HO107.out) gb119 (Nat.le_of_eq hg.symm)) hb)
           have n1_ := Aside0.mk (Kd.V_below (Kd.V_elderB (vz HL108_0.out) gb119 (Nat.le_of_eq hg.symm)) hb)
           have n2_ := Aside0.mk (Kd.bI_ (rz HO115.out) hb)
           have n3_ := Aside0.mk (IsS81.below (by repeat (first | (with_reducible first | exact HI0.out | apply IsS81.alloc | apply IsS81.drewN | apply IsS81.drew | apply IsS81.set_1 | apply IsS81.set_2 | refine IsS81.far ?_ NB0_101.out _) | exact HI0.out)) hb)
           have n4_ := Aside0.mk (az_ (kz BK101.out) hb)
           have n5_ := Aside0.mk (ac_.trans (by repeat (first | (with_reducible first | exact HK.out | apply ac_.set_ | apply ad_ | apply af_ | apply ae_ | refine ag_ ?_ GW101.out _) | exact HK.out)) (ac_.of_below hb g none) (.inl rfl))
           have n6_ := Aside0.mk (ah_ (by repeat (first | (with_reducible first | exact HB.out | apply bA_ | apply bN_ | apply bD_ | refine ab_ ?_ (IsS81.ge HI0.out) | refine ab_ ?_ GE101.out) | exact HB.out)) hb)
           have n7_ := Aside0.mk (hbox)
           have n8_ := Aside0.mk ((by rw [hg]; exact (aZ_ (w := w) (g := g) (row := none) (by repeat (first | (with_reducible first | exact HK.out | apply ac_.set_ | apply ad_ | apply af_ | apply ae_ | refine ag_ ?_ GW101.out _) | exact HK.out))) : w.heap.size ≤ gb119))
           have n9_ := Aside0.mk ((Nat.le_trans HW0.out (by rw [hg]; exact (aZ_ (w := w) (g := g) (row := none) (by repeat (first | (with_reducible first | exact HK.out | apply ac_.set_ | apply ad_ | apply af_ | apply ae_ | refine ag_ ?_ GW101.out _) | exact HK.out))) : w.heap.size ≤ gb119) : w0.heap.size ≤ gb119))
           have n10_ := Aside0.mk ((by rw [hg]; exact Nat.ne_of_lt (bX_ (kz BK101.out)) : gb101 ≠ gb119))
           have n11_ := Aside0.mk ((by rw [hg]; exact Nat.ne_of_gt (bX_ (kz BK101.out)) : gb119 ≠ gb101))
           have n12_ := Aside0.mk ((by rw [hg]; exact Nat.ne_of_lt (IsS81.lt (show IsS81 w0 _ g s0_0 t111 t112 from by repeat (first | (with_reducible first | exact HI0.out | apply IsS81.alloc | apply IsS81.drewN | apply IsS81.drew | apply IsS81.set_1 | apply IsS81.set_2 | refine IsS81.far ?_ NB0_101.out _) | exact HI0.out))) : g ≠ gb119))
           have n13_ := Aside0.mk ((by rw [hg]; exact Nat.ne_of_gt (IsS81.lt (show IsS81 w0 _ g s0_0 t111 t112 from by repeat (first | (with_reducible first | exact HI0.out | apply IsS81.alloc | apply IsS81.drewN | apply IsS81.drew | apply IsS81.set_1 | apply IsS81.set_2 | refine IsS81.far ?_ NB0_101.out _) | exact HI0.out))) : gb119 ≠ g))
           clear HO107
           clear HL108_0
           clear HO115
           clear HI0
           clear BK101
           clear HK
           clear HB
           have HO107 := n0_
           have HL108_0 := n1_
           have HO115 := n2_
           have HI0 := n3_
           have BK101 := n4_
           have HK := n5_
           have HB := n6_
           have BK119 := n7_
           have GW119 := n8_
           have GE119 := n9_
           have NB101_119 := n10_
           have NB119_101 := n11_
           have NB0_119 := n12_
           have NB119_0 := n13_
           clear n0_ n1_ n2_ n3_ n4_ n5_ n6_ n7_ n8_ n9_ n10_ n11_ n12_ n13_
           clear hb hbox hg
           refine hK.out _ _ trivial (fun hHeld => ?_)
           clear hK K
           refine norm_ (a' := ?_) ?_ ?_
           rotate_left
           ·show Act.put _ (some 5) _ = _
            simp only [Act.put, lsa_, ls0_, ls1_, i64_w, i32_w]
            rfl
           exact norm_ (by first | (simp only [bt_, Act.put, lsa_, ls0_, ls1_]; done) | (simp only [bt_, Act.put, lsa_, ls0_, ls1_]; rfl)) (hJ0_3_8 (.slice (some adz_v114) t113.length co24, adz_v114, gb119) _ ⟨(vz (Kd.db_ HL108_0.out (fun _ hk => ⟨hk.1.1, ⟨hk.1.2.1, ⟨hk.1.2.2.1, ⟨hk.1.2.2.2, hk.2⟩⟩⟩⟩))), (nz (Kd.cQ_ HO107.out (fun _ hk => ⟨hk.1.1, ⟨hk.1.2.1, ⟨hk.1.2.2, hk.2⟩⟩⟩))), (rz HO115.out), ⟨_, rfl⟩, (kz BK101.out), (kz BK119.out), GW119.out, GE119.out, NB0_119.out, NB119_0.out, NB101_119.out, NB119_101.out, (by repeat (first | (with_reducible first | exact HI0.out | apply IsS81.alloc | apply IsS81.drewN | apply IsS81.drew | apply IsS81.set_1 | apply IsS81.set_2 | refine IsS81.far ?_ NB0_101.out _ | refine IsS81.far ?_ NB0_119.out _) | exact HI0.out)), (by repeat (first | (with_reducible first | exact HK.out | apply ac_.set_ | apply ad_ | apply af_ | apply ae_ | refine ag_ ?_ GW101.out _ | refine ag_ ?_ GW119.out _) | exact HK.out)), (by repeat (first | (with_reducible first | exact HB.out | apply bA_ | apply bN_ | apply bD_ | refine ab_ ?_ (IsS81.ge HI0.out) | refine ab_ ?_ GE101.out | refine ab_ ?_ GE119.out) | exact HB.out))⟩)
        ·skip
         rintro ⟨v114, adz_v114, gb119⟩ w24 ⟨h0_, h1_, h2_, h3_, h4_, h5_, h6_, h7_, h8_, h9_, h10_, h11_, h12_, h13_, h14_⟩
         have n0_ : Aside0 (Kd.V (Kd.int .i64) 2 w24 w.heap.size (fun k_ => some k_ ≠ (.slice (some ad108) t105.length co18 : Value).ownBlock ∧ some k_ ≠ (v114 : Value).ownBlock ∧ k_ ≠ g ∧ k_ ≠ gb101 ∧ k_ ≠ gb119) (.slice (some ad109) (rd_L4 t105 t102).length c108_0) (rd_L4 t105 t102)) := ⟨h0_⟩
         have n1_ : Aside0 (Kd.N (Kd.slice 2 (Kd.int .i64)) 22 w24 w.heap.size (fun k_ => some k_ ≠ (v114 : Value).ownBlock ∧ k_ ≠ g ∧ k_ ≠ gb101 ∧ k_ ≠ gb119) (.slice (some ad108) t105.length co18) t105) := ⟨h1_⟩
         have n2_ : Aside0 (Kd.R Kd.string 9 w24 w.heap.size (fun _ => True) v114 t113) := ⟨h2_⟩
         have n3_ : Aside0 (∃ c_, (v114 : Value) = .slice (some adz_v114) t113.length c_) := ⟨h3_⟩
         have n4_ : Aside0 (w24.heap[gb101]? = some (.cells #[.string (⟨#[]⟩ : ByteArray), .int .i64 0, .int .i64 0] 94 (0, 0))) := ⟨h4_⟩
         have n5_ : Aside0 (w24.heap[gb119]? = some (.cells #[.string (⟨#[]⟩ : ByteArray), .int .i64 0, .int .i64 0] 94 (0, 0))) := ⟨h5_⟩
         have n6_ : Aside0 (w.heap.size ≤ gb119) := ⟨h6_⟩
         have n7_ : Aside0 (w0.heap.size ≤ gb119) := ⟨h7_⟩
         have n8_ : Aside0 (g ≠ gb119) := ⟨h8_⟩
         have n9_ : Aside0 (gb119 ≠ g) := ⟨h9_⟩
         have n10_ : Aside0 (gb101 ≠ gb119) := ⟨h10_⟩
         have n11_ : Aside0 (gb119 ≠ gb101) := ⟨h11_⟩
         have n12_ : Aside0 (IsS81 w0 w24 g s0_0 t111 t112) := ⟨h12_⟩
         have n13_ : Aside0 (ac_ w w24 g none) := ⟨h13_⟩
         have n14_ : Aside0 (Below w0.heap.size w0 w24) := ⟨h14_⟩
         clear HO107
         clear HL108_0
         clear BK101
         clear HI0
         clear HK
         clear HB
         clear h0_ h1_ h2_ h3_ h4_ h5_ h6_ h7_ h8_ h9_ h10_ h11_ h12_ h13_ h14_
         have HL108_0 := n0_
         have HO107 := n1_
         have HO115 := n2_
         have HA_HO115 := n3_
         have BK101 := n4_
         have BK119 := n5_
         have GW119 := n6_
         have GE119 := n7_
         have NB0_119 := n8_
         have NB119_0 := n9_
         have NB101_119 := n10_
         have NB119_101 := n11_
         have HI0 := n12_
         have HK := n13_
         have HB := n14_
         clear n0_ n1_ n2_ n3_ n4_ n5_ n6_ n7_ n8_ n9_ n10_ n11_ n12_ n13_ n14_
         have hHeld := trivial
         obtain ⟨co25, eo25⟩ := HA_HO115.out
         clear HA_HO115
         subst eo25
         refine norm_ (a' := ?_) ?_ ?_
         rotate_left
         ·simp only [bt_, Act.put, lsa_, ls0_, ls1_]
          rfl
         refine two_ (i := 3) (j := 6) (Ni := some 22) (Nj := some 25) #[t_,t_,t_,t_,t_,t_,f_,f_,t_,f_] #[t_,t_,t_,f_,t_,t_,t_,f_,t_,f_] rfl rfl rfl rfl (two_of HT_.out (by kernel_rfl)) (by decide) (by decide) (fun K hK => ?_) (fun K hK => ?_)
         ·skip
          (have p116 : 0 ≤ (t102 : Int) := of_decide_eq_true (by assumption); have q116 : t102 < (t113.length : Int) := of_decide_eq_true (by assumption); obtain ⟨ad116, e116, hx116_0⟩ := Kd.cc_ (Kd.aE_ HO115.out).2.2 t102 p116 q116; obtain rfl : adz_v114 = ad116 := (by injection e116))
          refine value_ (w1 := ?_) (v := ?_) (by rfl) rfl ?_ ?_
          rotate_left 2
          ·go_simp
           constructor
           ·rfl
           ·rfl
          clear hx116_0
          refine hK.out _ _ trivial (fun hHeld => ?_)
          clear hK K
          refine norm_ (a' := ?_) ?_ ?_
          rotate_left
          ·show Act.put _ (some 22) _ = _
           simp only [Act.put, lsa_, ls0_, ls1_, i64_w, i32_w]
           rfl
          exact norm_ (by first | (simp only [bt_, Act.put, lsa_, ls0_, ls1_]; done) | (simp only [bt_, Act.put, lsa_, ls0_, ls1_]; rfl)) (hJ0_3_5_8 (.slice (some adz_v114) t113.length co25, adz_v114, gb119) _ ⟨(vz HL108_0.out), (nz HO107.out), (rz HO115.out), ⟨_, rfl⟩, (kz BK101.out), (kz BK119.out), GW119.out, GE119.out, NB0_119.out, NB119_0.out, NB101_119.out, NB119_101.out, (by repeat (first | (with_reducible first | exact HI0.out | apply IsS81.alloc | apply IsS81.drewN | apply IsS81.drew | apply IsS81.set_1 | apply IsS81.set_2 | refine IsS81.far ?_ NB0_101.out _ | refine IsS81.far ?_ NB0_119.out _) | exact HI0.out)), (by repeat (first | (with_reducible first | exact HK.out | apply ac_.set_ | apply ad_ | apply af_ | apply ae_ | refine ag_ ?_ GW101.out _ | refine ag_ ?_ GW119.out _) | exact HK.out)), (by repeat (first | (with_reducible first | exact HB.out | apply bA_ | apply bN_ | apply bD_ | refine ab_ ?_ (IsS81.ge HI0.out) | refine ab_ ?_ GE101.out | refine ab_ ?_ GE119.out) | exact HB.out))⟩)
         ·skip
          (first | refine goes_ Tryd.func113 (by kernel_rfl) rfl #[.int .i64 100, .int .i64 t117] (by rfl) rfl rfl (by first | rfl | (simp only [lma_, lmc_, lmn_]; first | done | rfl)) ?_ | refine RPW.cj_ Tryd.func113 (by kernel_rfl) rfl #[.int .i64 100, .int .i64 t117] (by rfl) rfl rfl rfl (by first | rfl | (simp only [lma_, lmc_, lmn_]; first | done | rfl)) ?_ | refine RPW.ci_ Tryd.func113 (by kernel_rfl) rfl #[.int .i64 100, .int .i64 t117] (by rfl) rfl rfl rfl (by first | rfl | (simp only [lma_, lmc_, lmn_]; first | done | rfl)) ?_)
          with_reducible refine (bS_.calls 100 t117 t118 _ A11.out).mono ?_
          rintro e w' ⟨rfl, ⟨nd, rfl⟩⟩
          refine ⟨_, rfl, ?_⟩
          refine hK.out _ _ trivial (fun hHeld => ?_)
          clear hK K
          refine norm_ (a' := ?_) ?_ ?_
          rotate_left
          ·show Act.put _ (some 25) _ = _
           simp only [Act.put, lsa_, ls0_, ls1_, i64_w, i32_w]
           rfl
          exact norm_ (by first | (simp only [bt_, Act.put, lsa_, ls0_, ls1_]; done) | (simp only [bt_, Act.put, lsa_, ls0_, ls1_]; rfl)) (hJ0_5_6_8 (.slice (some adz_v114) t113.length co25, adz_v114, gb119) _ ⟨(vz HL108_0.out), (nz HO107.out), (rz HO115.out), ⟨_, rfl⟩, (kz BK101.out), (kz BK119.out), GW119.out, GE119.out, NB0_119.out, NB119_0.out, NB101_119.out, NB119_101.out, (by repeat (first | (with_reducible first | exact HI0.out | apply IsS81.alloc | apply IsS81.drewN | apply IsS81.drew | apply IsS81.set_1 | apply IsS81.set_2 | refine IsS81.far ?_ NB0_101.out _ | refine IsS81.far ?_ NB0_119.out _) | exact HI0.out)), (by repeat (first | (with_reducible first | exact HK.out | apply ac_.set_ | apply ad_ | apply af_ | apply ae_ | refine ag_ ?_ GW101.out _ | refine ag_ ?_ GW119.out _) | exact HK.out)), (by repeat (first | (with_reducible first | exact HB.out | apply bA_ | apply bN_ | apply bD_ | refine ab_ ?_ (IsS81.ge HI0.out) | refine ab_ ?_ GE101.out | refine ab_ ?_ GE119.out) | exact HB.out))⟩)
       ·skip
        rintro ⟨v114, adz_v114⟩ w23 ⟨h0_, h1_, h2_, h3_, h4_, h5_, h6_, h7_⟩
        have n0_ : Aside0 (Kd.V (Kd.int .i64) 2 w23 w.heap.size (fun k_ => some k_ ≠ (.slice (some ad108) t105.length co18 : Value).ownBlock ∧ some k_ ≠ (v114 : Value).ownBlock ∧ k_ ≠ g ∧ k_ ≠ gb101) (.slice (some ad109) (rd_L4 t105 t102).length c108_0) (rd_L4 t105 t102)) := ⟨h0_⟩
        have n1_ : Aside0 (Kd.N (Kd.slice 2 (Kd.int .i64)) 22 w23 w.heap.size (fun k_ => some k_ ≠ (v114 : Value).ownBlock ∧ k_ ≠ g ∧ k_ ≠ gb101) (.slice (some ad108) t105.length co18) t105) := ⟨h1_⟩
        have n2_ : Aside0 (Kd.R Kd.string 9 w23 w.heap.size (fun _ => True) v114 t113) := ⟨h2_⟩
        have n3_ : Aside0 (∃ c_, (v114 : Value) = .slice (some adz_v114) t113.length c_) := ⟨h3_⟩
        have n4_ : Aside0 (w23.heap[gb101]? = some (.cells #[.string (⟨#[]⟩ : ByteArray), .int .i64 0, .int .i64 0] 94 (0, 0))) := ⟨h4_⟩
        have n5_ : Aside0 (IsS81 w0 w23 g s0_0 t111 t112) := ⟨h5_⟩
        have n6_ : Aside0 (ac_ w w23 g none) := ⟨h6_⟩
        have n7_ : Aside0 (Below w0.heap.size w0 w23) := ⟨h7_⟩
        clear HO107
        clear HL108_0
        clear BK101
        clear HI0
        clear HK
        clear HB
        clear h0_ h1_ h2_ h3_ h4_ h5_ h6_ h7_
        have HL108_0 := n0_
        have HO107 := n1_
        have HO115 := n2_
        have HA_HO115 := n3_
        have BK101 := n4_
        have HI0 := n5_
        have HK := n6_
        have HB := n7_
        clear n0_ n1_ n2_ n3_ n4_ n5_ n6_ n7_
        have hHeld := trivial
        obtain ⟨co24, eo24⟩ := HA_HO115.out
        clear HA_HO115
        subst eo24
        refine norm_ (a' := ?_) ?_ ?_
        rotate_left
        ·simp only [bt_, Act.put, lsa_, ls0_, ls1_]
         rfl
        refine two_ (i := 3) (j := 8) (Ni := some 22) (Nj := some 5) #[t_,t_,t_,t_,t_,t_,t_,f_,f_,f_] #[t_,t_,t_,f_,t_,t_,t_,f_,t_,f_] rfl rfl rfl rfl (two_of HT_.out (by kernel_rfl)) (by decide) (by decide) (fun K hK => ?_) (fun K hK => ?_)
        ·skip
         (have p116 : 0 ≤ (t102 : Int) := of_decide_eq_true (by assumption); have q116 : t102 < (t113.length : Int) := of_decide_eq_true (by assumption); obtain ⟨ad116, e116, hx116_0⟩ := Kd.cc_ (Kd.aE_ HO115.out).2.2 t102 p116 q116; obtain rfl : adz_v114 = ad116 := (by injection e116))
         refine value_ (w1 := ?_) (v := ?_) (by rfl) rfl ?_ ?_
         rotate_left 2
         ·go_simp
          constructor
          ·rfl
          ·rfl
         clear hx116_0
         refine hK.out _ _ trivial (fun hHeld => ?_)
         clear hK K
         refine norm_ (a' := ?_) ?_ ?_
         rotate_left
         ·show Act.put _ (some 22) _ = _
          simp only [Act.put, lsa_, ls0_, ls1_, i64_w, i32_w]
          rfl
         refine pu 7 26 #[t_,t_,t_,t_,t_,t_,t_,t_,f_,f_] HT_ ?_
         exact norm_ (by first | (simp only [bt_, Act.put, lsa_, ls0_, ls1_]; done) | (simp only [bt_, Act.put, lsa_, ls0_, ls1_]; rfl)) (hJ0_3_5_6 (.slice (some adz_v114) t113.length co24, adz_v114) _ ⟨(vz HL108_0.out), (nz HO107.out), (rz HO115.out), ⟨_, rfl⟩, (kz BK101.out), (by repeat (first | (with_reducible first | exact HI0.out | apply IsS81.alloc | apply IsS81.drewN | apply IsS81.drew | apply IsS81.set_1 | apply IsS81.set_2 | refine IsS81.far ?_ NB0_101.out _) | exact HI0.out)), (by repeat (first | (with_reducible first | exact HK.out | apply ac_.set_ | apply ad_ | apply af_ | apply ae_ | refine ag_ ?_ GW101.out _) | exact HK.out)), (by repeat (first | (with_reducible first | exact HB.out | apply bA_ | apply bN_ | apply bD_ | refine ab_ ?_ (IsS81.ge HI0.out) | refine ab_ ?_ GE101.out) | exact HB.out))⟩)
        ·skip
         refine de_ ?hg (N := 5) ?hd (cs := #[.string (⟨#[]⟩ : ByteArray), .int .i64 0, .int .i64 0]) (t := 94) ?hr ?_; (case hd => rfl); (case hg => rfl); (case hr => (go_simp; try rfl))
         intro gb119 hg w25 hbox hb
         have n0_ := Aside0.mk (Kd.N_below (Kd.N_elderB (nz HO107.out) gb119 (Nat.le_of_eq hg.symm)) hb)
         have n1_ := Aside0.mk (Kd.V_below (Kd.V_elderB (vz HL108_0.out) gb119 (Nat.le_of_eq hg.symm)) hb)
         have n2_ := Aside0.mk (Kd.bI_ (rz HO115.out) hb)
         have n3_ := Aside0.mk (IsS81.below (by repeat (first | (with_reducible first | exact HI0.out | apply IsS81.alloc | apply IsS81.drewN | apply IsS81.drew | apply IsS81.set_1 | apply IsS81.set_2 | refine IsS81.far ?_ NB0_101.out _) | exact HI0.out)) hb)
         have n4_ := Aside0.mk (az_ (kz BK101.out) hb)
         have n5_ := Aside0.mk (ac_.trans (by repeat (first | (with_reducible first | exact HK.out | apply ac_.set_ | apply ad_ | apply af_ | apply ae_ | refine ag_ ?_ GW101.out _) | exact HK.out)) (ac_.of_below hb g none) (.inl rfl))
         have n6_ := Aside0.mk (ah_ (by repeat (first | (with_reducible first | exact HB.out | apply bA_ | apply bN_ | apply bD_ | refine ab_ ?_ (IsS81.ge HI0.out) | refine ab_ ?_ GE101.out) | exact HB.out)) hb)
         have n7_ := Aside0.mk (hbox)
         have n8_ := Aside0.mk ((by rw [hg]; exact (aZ_ (w := w) (g := g) (row := none) (by repeat (first | (with_reducible first | exact HK.out | apply ac_.set_ | apply ad_ | apply af_ | apply ae_ | refine ag_ ?_ GW101.out _) | exact HK.out))) : w.heap.size ≤ gb119))
         have n9_ := Aside0.mk ((Nat.le_trans HW0.out (by rw [hg]; exact (aZ_ (w := w) (g := g) (row := none) (by repeat (first | (with_reducible first | exact HK.out | apply ac_.set_ | apply ad_ | apply af_ | apply ae_ | refine ag_ ?_ GW101.out _) | exact HK.out))) : w.heap.size ≤ gb119) : w0.heap.size ≤ gb119))
         have n10_ := Aside0.mk ((by rw [hg]; exact Nat.ne_of_lt (bX_ (kz BK101.out)) : gb101 ≠ gb119))
         have n11_ := Aside0.mk ((by rw [hg]; exact Nat.ne_of_gt (bX_ (kz BK101.out)) : gb119 ≠ gb101))
         have n12_ := Aside0.mk ((by rw [hg]; exact Nat.ne_of_lt (IsS81.lt (show IsS81 w0 _ g s0_0 t111 t112 from by repeat (first | (with_reducible first | exact HI0.out | apply IsS81.alloc | apply IsS81.drewN | apply IsS81.drew | apply IsS81.set_1 | apply IsS81.set_2 | refine IsS81.far ?_ NB0_101.out _) | exact HI0.out))) : g ≠ gb119))
         have n13_ := Aside0.mk ((by rw [hg]; exact Nat.ne_of_gt (IsS81.lt (show IsS81 w0 _ g s0_0 t111 t112 from by repeat (first | (with_reducible first | exact HI0.out | apply IsS81.alloc | apply IsS81.drewN | apply IsS81.drew | apply IsS81.set_1 | apply IsS81.set_2 | refine IsS81.far ?_ NB0_101.out _) | exact HI0.out))) : gb119 ≠ g))
         clear HO107
         clear HL108_0
         clear HO115
         clear HI0
         clear BK101
         clear HK
         clear HB
         have HO107 := n0_
         have HL108_0 := n1_
         have HO115 := n2_
         have HI0 := n3_
         have BK101 := n4_
         have HK := n5_
         have HB := n6_
         have BK119 := n7_
         have GW119 := n8_
         have GE119 := n9_
         have NB101_119 := n10_
         have NB119_101 := n11_
         have NB0_119 := n12_
         have NB119_0 := n13_
         clear n0_ n1_ n2_ n3_ n4_ n5_ n6_ n7_ n8_ n9_ n10_ n11_ n12_ n13_
         clear hb hbox hg
         refine hK.out _ _ trivial (fun hHeld => ?_)
         clear hK K
         refine norm_ (a' := ?_) ?_ ?_
         rotate_left
         ·show Act.put _ (some 5) _ = _
          simp only [Act.put, lsa_, ls0_, ls1_, i64_w, i32_w]
          rfl
         exact norm_ (by first | (simp only [bt_, Act.put, lsa_, ls0_, ls1_]; done) | (simp only [bt_, Act.put, lsa_, ls0_, ls1_]; rfl)) (hJ0_5_6_8 (.slice (some adz_v114) t113.length co24, adz_v114, gb119) _ ⟨(vz (Kd.db_ HL108_0.out (fun _ hk => ⟨hk.1.1, ⟨hk.1.2.1, ⟨hk.1.2.2.1, ⟨hk.1.2.2.2, hk.2⟩⟩⟩⟩))), (nz (Kd.cQ_ HO107.out (fun _ hk => ⟨hk.1.1, ⟨hk.1.2.1, ⟨hk.1.2.2, hk.2⟩⟩⟩))), (rz HO115.out), ⟨_, rfl⟩, (kz BK101.out), (kz BK119.out), GW119.out, GE119.out, NB0_119.out, NB119_0.out, NB101_119.out, NB119_101.out, (by repeat (first | (with_reducible first | exact HI0.out | apply IsS81.alloc | apply IsS81.drewN | apply IsS81.drew | apply IsS81.set_1 | apply IsS81.set_2 | refine IsS81.far ?_ NB0_101.out _ | refine IsS81.far ?_ NB0_119.out _) | exact HI0.out)), (by repeat (first | (with_reducible first | exact HK.out | apply ac_.set_ | apply ad_ | apply af_ | apply ae_ | refine ag_ ?_ GW101.out _ | refine ag_ ?_ GW119.out _) | exact HK.out)), (by repeat (first | (with_reducible first | exact HB.out | apply bA_ | apply bN_ | apply bD_ | refine ab_ ?_ (IsS81.ge HI0.out) | refine ab_ ?_ GE101.out | refine ab_ ?_ GE119.out) | exact HB.out))⟩)
      ·skip
       rintro ⟨v114, adz_v114, gb119⟩ w24 ⟨h0_, h1_, h2_, h3_, h4_, h5_, h6_, h7_, h8_, h9_, h10_, h11_, h12_, h13_, h14_⟩
       have n0_ : Aside0 (Kd.V (Kd.int .i64) 2 w24 w.heap.size (fun k_ => some k_ ≠ (.slice (some ad108) t105.length co18 : Value).ownBlock ∧ some k_ ≠ (v114 : Value).ownBlock ∧ k_ ≠ g ∧ k_ ≠ gb101 ∧ k_ ≠ gb119) (.slice (some ad109) (rd_L4 t105 t102).length c108_0) (rd_L4 t105 t102)) := ⟨h0_⟩
       have n1_ : Aside0 (Kd.N (Kd.slice 2 (Kd.int .i64)) 22 w24 w.heap.size (fun k_ => some k_ ≠ (v114 : Value).ownBlock ∧ k_ ≠ g ∧ k_ ≠ gb101 ∧ k_ ≠ gb119) (.slice (some ad108) t105.length co18) t105) := ⟨h1_⟩
       have n2_ : Aside0 (Kd.R Kd.string 9 w24 w.heap.size (fun _ => True) v114 t113) := ⟨h2_⟩
       have n3_ : Aside0 (∃ c_, (v114 : Value) = .slice (some adz_v114) t113.length c_) := ⟨h3_⟩
       have n4_ : Aside0 (w24.heap[gb101]? = some (.cells #[.string (⟨#[]⟩ : ByteArray), .int .i64 0, .int .i64 0] 94 (0, 0))) := ⟨h4_⟩
       have n5_ : Aside0 (w24.heap[gb119]? = some (.cells #[.string (⟨#[]⟩ : ByteArray), .int .i64 0, .int .i64 0] 94 (0, 0))) := ⟨h5_⟩
       have n6_ : Aside0 (w.heap.size ≤ gb119) := ⟨h6_⟩
       have n7_ : Aside0 (w0.heap.size ≤ gb119) := ⟨h7_⟩
       have n8_ : Aside0 (g ≠ gb119) := ⟨h8_⟩
       have n9_ : Aside0 (gb119 ≠ g) := ⟨h9_⟩
       have n10_ : Aside0 (gb101 ≠ gb119) := ⟨h10_⟩
       have n11_ : Aside0 (gb119 ≠ gb101) := ⟨h11_⟩
       have n12_ : Aside0 (IsS81 w0 w24 g s0_0 t111 t112) := ⟨h12_⟩
       have n13_ : Aside0 (ac_ w w24 g none) := ⟨h13_⟩
       have n14_ : Aside0 (Below w0.heap.size w0 w24) := ⟨h14_⟩
       clear HO107
       clear HL108_0
       clear BK101
       clear HI0
       clear HK
       clear HB
       clear h0_ h1_ h2_ h3_ h4_ h5_ h6_ h7_ h8_ h9_ h10_ h11_ h12_ h13_ h14_
       have HL108_0 := n0_
       have HO107 := n1_
       have HO115 := n2_
       have HA_HO115 := n3_
       have BK101 := n4_
       have BK119 := n5_
       have GW119 := n6_
       have GE119 := n7_
       have NB0_119 := n8_
       have NB119_0 := n9_
       have NB101_119 := n10_
       have NB119_101 := n11_
       have HI0 := n12_
       have HK := n13_
       have HB := n14_
       clear n0_ n1_ n2_ n3_ n4_ n5_ n6_ n7_ n8_ n9_ n10_ n11_ n12_ n13_ n14_
       have hHeld := trivial
       obtain ⟨co25, eo25⟩ := HA_HO115.out
       clear HA_HO115
       subst eo25
       refine norm_ (a' := ?_) ?_ ?_
       rotate_left
       ·simp only [bt_, Act.put, lsa_, ls0_, ls1_]
        rfl
       refine one_ (i := 5) (N := some 24) #[t_,t_,t_,t_,t_,t_,f_,f_,t_,f_] rfl rfl (bZ_ HT_.out (by kernel_rfl)) (by decide) (fun K hK => ?_)
       (first | refine goes_ Tryd.func114 (by kernel_rfl) rfl #[.int .i64 0, .int .i64 (wrap64 ((wrap64 ((rd (rd_L4 t105 t102) 0) + t110)) - 10))] (by rfl) rfl rfl (by first | rfl | (simp only [lma_, lmc_, lmn_]; first | done | rfl)) ?_ | refine RPW.cj_ Tryd.func114 (by kernel_rfl) rfl #[.int .i64 0, .int .i64 (wrap64 ((wrap64 ((rd (rd_L4 t105 t102) 0) + t110)) - 10))] (by rfl) rfl rfl rfl (by first | rfl | (simp only [lma_, lmc_, lmn_]; first | done | rfl)) ?_ | refine RPW.ci_ Tryd.func114 (by kernel_rfl) rfl #[.int .i64 0, .int .i64 (wrap64 ((wrap64 ((rd (rd_L4 t105 t102) 0) + t110)) - 10))] (by rfl) rfl rfl rfl (by first | rfl | (simp only [lma_, lmc_, lmn_]; first | done | rfl)) ?_)
       with_reducible refine (cr_.calls 0 (wrap64 ((wrap64 ((rd (rd_L4 t105 t102) 0) + t110)) - 10)) t117 _ A10.out).mono ?_
       rintro e w' ⟨rfl, ⟨nd, rfl⟩⟩
       refine ⟨_, rfl, ?_⟩
       refine hK.out _ _ trivial (fun hHeld => ?_)
       clear hK K
       refine norm_ (a' := ?_) ?_ ?_
       rotate_left
       ·show Act.put _ (some 24) _ = _
        simp only [Act.put, lsa_, ls0_, ls1_, i64_w, i32_w]
        rfl
       exact norm_ (by first | (simp only [bt_, Act.put, lsa_, ls0_, ls1_]; done) | (simp only [bt_, Act.put, lsa_, ls0_, ls1_]; rfl)) (hJ0_3_5_8 (.slice (some adz_v114) t113.length co25, adz_v114, gb119) _ ⟨(vz HL108_0.out), (nz HO107.out), (rz HO115.out), ⟨_, rfl⟩, (kz BK101.out), (kz BK119.out), GW119.out, GE119.out, NB0_119.out, NB119_0.out, NB101_119.out, NB119_101.out, (by repeat (first | (with_reducible first | exact HI0.out | apply IsS81.alloc | apply IsS81.drewN | apply IsS81.drew | apply IsS81.set_1 | apply IsS81.set_2 | refine IsS81.far ?_ NB0_101.out _ | refine IsS81.far ?_ NB0_119.out _) | exact HI0.out)), (by repeat (first | (with_reducible first | exact HK.out | apply ac_.set_ | apply ad_ | apply af_ | apply ae_ | refine ag_ ?_ GW101.out _ | refine ag_ ?_ GW119.out _) | exact HK.out)), (by repeat (first | (with_reducible first | exact HB.out | apply bA_ | apply bN_ | apply bD_ | refine ab_ ?_ (IsS81.ge HI0.out) | refine ab_ ?_ GE101.out | refine ab_ ?_ GE119.out) | exact HB.out))⟩)
     ·skip
      rintro ⟨v114, adz_v114⟩ w23 ⟨h0_, h1_, h2_, h3_, h4_, h5_, h6_, h7_⟩
      have n0_ : Aside0 (Kd.V (Kd.int .i64) 2 w23 w.heap.size (fun k_ => some k_ ≠ (.slice (some ad108) t105.length co18 : Value).ownBlock ∧ some k_ ≠ (v114 : Value).ownBlock ∧ k_ ≠ g ∧ k_ ≠ gb101) (.slice (some ad109) (rd_L4 t105 t102).length c108_0) (rd_L4 t105 t102)) := ⟨h0_⟩
      have n1_ : Aside0 (Kd.N (Kd.slice 2 (Kd.int .i64)) 22 w23 w.heap.size (fun k_ => some k_ ≠ (v114 : Value).ownBlock ∧ k_ ≠ g ∧ k_ ≠ gb101) (.slice (some ad108) t105.length co18) t105) := ⟨h1_⟩
      have n2_ : Aside0 (Kd.R Kd.string 9 w23 w.heap.size (fun _ => True) v114 t113) := ⟨h2_⟩
      have n3_ : Aside0 (∃ c_, (v114 : Value) = .slice (some adz_v114) t113.length c_) := ⟨h3_⟩
      have n4_ : Aside0 (w23.heap[gb101]? = some (.cells #[.string (⟨#[]⟩ : ByteArray), .int .i64 0, .int .i64 0] 94 (0, 0))) := ⟨h4_⟩
      have n5_ : Aside0 (IsS81 w0 w23 g s0_0 t111 t112) := ⟨h5_⟩
      have n6_ : Aside0 (ac_ w w23 g none) := ⟨h6_⟩
      have n7_ : Aside0 (Below w0.heap.size w0 w23) := ⟨h7_⟩
      clear HO107
      clear HL108_0
      clear BK101
      clear HI0
      clear HK
      clear HB
      clear h0_ h1_ h2_ h3_ h4_ h5_ h6_ h7_
      have HL108_0 := n0_
      have HO107 := n1_
      have HO115 := n2_
      have HA_HO115 := n3_
      have BK101 := n4_
      have HI0 := n5_
      have HK := n6_
      have HB := n7_
      clear n0_ n1_ n2_ n3_ n4_ n5_ n6_ n7_
      have hHeld := trivial
      obtain ⟨co24, eo24⟩ := HA_HO115.out
      clear HA_HO115
      subst eo24
      refine norm_ (a' := ?_) ?_ ?_
      rotate_left
      ·simp only [bt_, Act.put, lsa_, ls0_, ls1_]
       rfl
      refine two_ (i := 6) (j := 8) (Ni := some 25) (Nj := some 5) #[t_,t_,t_,t_,t_,t_,t_,f_,f_,f_] #[t_,t_,t_,t_,t_,t_,f_,f_,t_,f_] rfl rfl rfl rfl (two_of HT_.out (by kernel_rfl)) (by decide) (by decide) (fun K hK => ?_) (fun K hK => ?_)
      ·skip
       (first | refine goes_ Tryd.func113 (by kernel_rfl) rfl #[.int .i64 100, .int .i64 t117] (by rfl) rfl rfl (by first | rfl | (simp only [lma_, lmc_, lmn_]; first | done | rfl)) ?_ | refine RPW.cj_ Tryd.func113 (by kernel_rfl) rfl #[.int .i64 100, .int .i64 t117] (by rfl) rfl rfl rfl (by first | rfl | (simp only [lma_, lmc_, lmn_]; first | done | rfl)) ?_ | refine RPW.ci_ Tryd.func113 (by kernel_rfl) rfl #[.int .i64 100, .int .i64 t117] (by rfl) rfl rfl rfl (by first | rfl | (simp only [lma_, lmc_, lmn_]; first | done | rfl)) ?_)
       with_reducible refine (bS_.calls 100 t117 t118 _ A11.out).mono ?_
       rintro e w' ⟨rfl, ⟨nd, rfl⟩⟩
       refine ⟨_, rfl, ?_⟩
       refine hK.out _ _ trivial (fun hHeld => ?_)
       clear hK K
       refine norm_ (a' := ?_) ?_ ?_
       rotate_left
       ·show Act.put _ (some 25) _ = _
        simp only [Act.put, lsa_, ls0_, ls1_, i64_w, i32_w]
        rfl
       refine pu 7 26 #[t_,t_,t_,t_,t_,t_,t_,t_,f_,f_] HT_ ?_
       exact norm_ (by first | (simp only [bt_, Act.put, lsa_, ls0_, ls1_]; done) | (simp only [bt_, Act.put, lsa_, ls0_, ls1_]; rfl)) (hJ0_3_5_6 (.slice (some adz_v114) t113.length co24, adz_v114) _ ⟨(vz HL108_0.out), (nz HO107.out), (rz HO115.out), ⟨_, rfl⟩, (kz BK101.out), (by repeat (first | (with_reducible first | exact HI0.out | apply IsS81.alloc | apply IsS81.drewN | apply IsS81.drew | apply IsS81.set_1 | apply IsS81.set_2 | refine IsS81.far ?_ NB0_101.out _) | exact HI0.out)), (by repeat (first | (with_reducible first | exact HK.out | apply ac_.set_ | apply ad_ | apply af_ | apply ae_ | refine ag_ ?_ GW101.out _) | exact HK.out)), (by repeat (first | (with_reducible first | exact HB.out | apply bA_ | apply bN_ | apply bD_ | refine ab_ ?_ (IsS81.ge HI0.out) | refine ab_ ?_ GE101.out) | exact HB.out))⟩)
      ·skip
       refine de_ ?hg (N := 5) ?hd (cs := #[.string (⟨#[]⟩ : ByteArray), .int .i64 0, .int .i64 0]) (t := 94) ?hr ?_; (case hd => rfl); (case hg => rfl); (case hr => (go_simp; try rfl))
       intro gb119 hg w25 hbox hb
       have n0_ := Aside0.mk (Kd.N_below (Kd.N_elderB (nz HO107.out) gb119 (Nat.le_of_eq hg.symm)) hb)
       have n1_ := Aside0.mk (Kd.V_below (Kd.V_elderB (vz HL108_0.out) gb119 (Nat.le_of_eq hg.symm)) hb)
       have n2_ := Aside0.mk (Kd.bI_ (rz HO115.out) hb)
       have n3_ := Aside0.mk (IsS81.below (by repeat (first | (with_reducible first | exact HI0.out | apply IsS81.alloc | apply IsS81.drewN | apply IsS81.drew | apply IsS81.set_1 | apply IsS81.set_2 | refine IsS81.far ?_ NB0_101.out _) | exact HI0.out)) hb)
       have n4_ := Aside0.mk (az_ (kz BK101.out) hb)
       have n5_ := Aside0.mk (ac_.trans (by repeat (first | (with_reducible first | exact HK.out | apply ac_.set_ | apply ad_ | apply af_ | apply ae_ | refine ag_ ?_ GW101.out _) | exact HK.out)) (ac_.of_below hb g none) (.inl rfl))
       have n6_ := Aside0.mk (ah_ (by repeat (first | (with_reducible first | exact HB.out | apply bA_ | apply bN_ | apply bD_ | refine ab_ ?_ (IsS81.ge HI0.out) | refine ab_ ?_ GE101.out) | exact HB.out)) hb)
       have n7_ := Aside0.mk (hbox)
       have n8_ := Aside0.mk ((by rw [hg]; exact (aZ_ (w := w) (g := g) (row := none) (by repeat (first | (with_reducible first | exact HK.out | apply ac_.set_ | apply ad_ | apply af_ | apply ae_ | refine ag_ ?_ GW101.out _) | exact HK.out))) : w.heap.size ≤ gb119))
       have n9_ := Aside0.mk ((Nat.le_trans HW0.out (by rw [hg]; exact (aZ_ (w := w) (g := g) (row := none) (by repeat (first | (with_reducible first | exact HK.out | apply ac_.set_ | apply ad_ | apply af_ | apply ae_ | refine ag_ ?_ GW101.out _) | exact HK.out))) : w.heap.size ≤ gb119) : w0.heap.size ≤ gb119))
       have n10_ := Aside0.mk ((by rw [hg]; exact Nat.ne_of_lt (bX_ (kz BK101.out)) : gb101 ≠ gb119))
       have n11_ := Aside0.mk ((by rw [hg]; exact Nat.ne_of_gt (bX_ (kz BK101.out)) : gb119 ≠ gb101))
       have n12_ := Aside0.mk ((by rw [hg]; exact Nat.ne_of_lt (IsS81.lt (show IsS81 w0 _ g s0_0 t111 t112 from by repeat (first | (with_reducible first | exact HI0.out | apply IsS81.alloc | apply IsS81.drewN | apply IsS81.drew | apply IsS81.set_1 | apply IsS81.set_2 | refine IsS81.far ?_ NB0_101.out _) | exact HI0.out))) : g ≠ gb119))
       have n13_ := Aside0.mk ((by rw [hg]; exact Nat.ne_of_gt (IsS81.lt (show IsS81 w0 _ g s0_0 t111 t112 from by repeat (first | (with_reducible first | exact HI0.out | apply IsS81.alloc | apply IsS81.drewN | apply IsS81.drew | apply IsS81.set_1 | apply IsS81.set_2 | refine IsS81.far ?_ NB0_101.out _) | exact HI0.out))) : gb119 ≠ g))
       clear HO107
       clear HL108_0
       clear HO115
       clear HI0
       clear BK101
       clear HK
       clear HB
       have HO107 := n0_
       have HL108_0 := n1_
       have HO115 := n2_
       have HI0 := n3_
       have BK101 := n4_
       have HK := n5_
       have HB := n6_
       have BK119 := n7_
       have GW119 := n8_
       have GE119 := n9_
       have NB101_119 := n10_
       have NB119_101 := n11_
       have NB0_119 := n12_
       have NB119_0 := n13_
       clear n0_ n1_ n2_ n3_ n4_ n5_ n6_ n7_ n8_ n9_ n10_ n11_ n12_ n13_
       clear hb hbox hg
       refine hK.out _ _ trivial (fun hHeld => ?_)
       clear hK K
       refine norm_ (a' := ?_) ?_ ?_
       rotate_left
       ·show Act.put _ (some 5) _ = _
        simp only [Act.put, lsa_, ls0_, ls1_, i64_w, i32_w]
        rfl
       exact norm_ (by first | (simp only [bt_, Act.put, lsa_, ls0_, ls1_]; done) | (simp only [bt_, Act.put, lsa_, ls0_, ls1_]; rfl)) (hJ0_3_5_8 (.slice (some adz_v114) t113.length co24, adz_v114, gb119) _ ⟨(vz (Kd.db_ HL108_0.out (fun _ hk => ⟨hk.1.1, ⟨hk.1.2.1, ⟨hk.1.2.2.1, ⟨hk.1.2.2.2, hk.2⟩⟩⟩⟩))), (nz (Kd.cQ_ HO107.out (fun _ hk => ⟨hk.1.1, ⟨hk.1.2.1, ⟨hk.1.2.2, hk.2⟩⟩⟩))), (rz HO115.out), ⟨_, rfl⟩, (kz BK101.out), (kz BK119.out), GW119.out, GE119.out, NB0_119.out, NB119_0.out, NB101_119.out, NB119_101.out, (by repeat (first | (with_reducible first | exact HI0.out | apply IsS81.alloc | apply IsS81.drewN | apply IsS81.drew | apply IsS81.set_1 | apply IsS81.set_2 | refine IsS81.far ?_ NB0_101.out _ | refine IsS81.far ?_ NB0_119.out _) | exact HI0.out)), (by repeat (first | (with_reducible first | exact HK.out | apply ac_.set_ | apply ad_ | apply af_ | apply ae_ | refine ag_ ?_ GW101.out _ | refine ag_ ?_ GW119.out _) | exact HK.out)), (by repeat (first | (with_reducible first | exact HB.out | apply bA_ | apply bN_ | apply bD_ | refine ab_ ?_ (IsS81.ge HI0.out) | refine ab_ ?_ GE101.out | refine ab_ ?_ GE119.out) | exact HB.out))⟩)
    ·skip
     rintro ⟨v114, adz_v114, gb119⟩ w24 ⟨h0_, h1_, h2_, h3_, h4_, h5_, h6_, h7_, h8_, h9_, h10_, h11_, h12_, h13_, h14_⟩
     have n0_ : Aside0 (Kd.V (Kd.int .i64) 2 w24 w.heap.size (fun k_ => some k_ ≠ (.slice (some ad108) t105.length co18 : Value).ownBlock ∧ some k_ ≠ (v114 : Value).ownBlock ∧ k_ ≠ g ∧ k_ ≠ gb101 ∧ k_ ≠ gb119) (.slice (some ad109) (rd_L4 t105 t102).length c108_0) (rd_L4 t105 t102)) := ⟨h0_⟩
     have n1_ : Aside0 (Kd.N (Kd.slice 2 (Kd.int .i64)) 22 w24 w.heap.size (fun k_ => some k_ ≠ (v114 : Value).ownBlock ∧ k_ ≠ g ∧ k_ ≠ gb101 ∧ k_ ≠ gb119) (.slice (some ad108) t105.length co18) t105) := ⟨h1_⟩
     have n2_ : Aside0 (Kd.R Kd.string 9 w24 w.heap.size (fun _ => True) v114 t113) := ⟨h2_⟩
     have n3_ : Aside0 (∃ c_, (v114 : Value) = .slice (some adz_v114) t113.length c_) := ⟨h3_⟩
     have n4_ : Aside0 (w24.heap[gb101]? = some (.cells #[.string (⟨#[]⟩ : ByteArray), .int .i64 0, .int .i64 0] 94 (0, 0))) := ⟨h4_⟩
     have n5_ : Aside0 (w24.heap[gb119]? = some (.cells #[.string (⟨#[]⟩ : ByteArray), .int .i64 0, .int .i64 0] 94 (0, 0))) := ⟨h5_⟩
     have n6_ : Aside0 (w.heap.size ≤ gb119) := ⟨h6_⟩
     have n7_ : Aside0 (w0.heap.size ≤ gb119) := ⟨h7_⟩
     have n8_ : Aside0 (g ≠ gb119) := ⟨h8_⟩
     have n9_ : Aside0 (gb119 ≠ g) := ⟨h9_⟩
     have n10_ : Aside0 (gb101 ≠ gb119) := ⟨h10_⟩
     have n11_ : Aside0 (gb119 ≠ gb101) := ⟨h11_⟩
     have n12_ : Aside0 (IsS81 w0 w24 g s0_0 t111 t112) := ⟨h12_⟩
     have n13_ : Aside0 (ac_ w w24 g none) := ⟨h13_⟩
     have n14_ : Aside0 (Below w0.heap.size w0 w24) := ⟨h14_⟩
     clear HO107
     clear HL108_0
     clear BK101
     clear HI0
     clear HK
     clear HB
     clear h0_ h1_ h2_ h3_ h4_ h5_ h6_ h7_ h8_ h9_ h10_ h11_ h12_ h13_ h14_
     have HL108_0 := n0_
     have HO107 := n1_
     have HO115 := n2_
     have HA_HO115 := n3_
     have BK101 := n4_
     have BK119 := n5_
     have GW119 := n6_
     have GE119 := n7_
     have NB0_119 := n8_
     have NB119_0 := n9_
     have NB101_119 := n10_
     have NB119_101 := n11_
     have HI0 := n12_
     have HK := n13_
     have HB := n14_
     clear n0_ n1_ n2_ n3_ n4_ n5_ n6_ n7_ n8_ n9_ n10_ n11_ n12_ n13_ n14_
     have hHeld := trivial
     obtain ⟨co25, eo25⟩ := HA_HO115.out
     clear HA_HO115
     subst eo25
     refine norm_ (a' := ?_) ?_ ?_
     rotate_left
     ·simp only [bt_, Act.put, lsa_, ls0_, ls1_]
      rfl
     refine one_ (i := 3) (N := some 22) #[t_,t_,t_,t_,t_,t_,t_,f_,t_,f_] rfl rfl (bZ_ HT_.out (by kernel_rfl)) (by decide) (fun K hK => ?_)
     (have p116 : 0 ≤ (t102 : Int) := of_decide_eq_true (by assumption); have q116 : t102 < (t113.length : Int) := of_decide_eq_true (by assumption); obtain ⟨ad116, e116, hx116_0⟩ := Kd.cc_ (Kd.aE_ HO115.out).2.2 t102 p116 q116; obtain rfl : adz_v114 = ad116 := (by injection e116))
     refine value_ (w1 := ?_) (v := ?_) (by rfl) rfl ?_ ?_
     rotate_left 2
     ·go_simp
      constructor
      ·rfl
      ·rfl
     clear hx116_0
     refine hK.out _ _ trivial (fun hHeld => ?_)
     clear hK K
     refine norm_ (a' := ?_) ?_ ?_
     rotate_left
     ·show Act.put _ (some 22) _ = _
      simp only [Act.put, lsa_, ls0_, ls1_, i64_w, i32_w]
      rfl
     refine pu 7 26 #[t_,t_,t_,t_,t_,t_,t_,t_,t_,f_] HT_ ?_
     exact norm_ (by first | (simp only [bt_, Act.put, lsa_, ls0_, ls1_]; done) | (simp only [bt_, Act.put, lsa_, ls0_, ls1_]; rfl)) (hJ0_3_5_6_8 (.slice (some adz_v114) t113.length co25, adz_v114, gb119) _ ⟨(vz HL108_0.out), (nz HO107.out), (rz HO115.out), ⟨_, rfl⟩, (kz BK101.out), (kz BK119.out), GW119.out, GE119.out, NB0_119.out, NB119_0.out, NB101_119.out, NB119_101.out, (by repeat (first | (with_reducible first | exact HI0.out | apply IsS81.alloc | apply IsS81.drewN | apply IsS81.drew | apply IsS81.set_1 | apply IsS81.set_2 | refine IsS81.far ?_ NB0_101.out _ | refine IsS81.far ?_ NB0_119.out _) | exact HI0.out)), (by repeat (first | (with_reducible first | exact HK.out | apply ac_.set_ | apply ad_ | apply af_ | apply ae_ | refine ag_ ?_ GW101.out _ | refine ag_ ?_ GW119.out _) | exact HK.out)), (by repeat (first | (with_reducible first | exact HB.out | apply bA_ | apply bN_ | apply bD_ | refine ab_ ?_ (IsS81.ge HI0.out) | refine ab_ ?_ GE101.out | refine ab_ ?_ GE119.out) | exact HB.out))⟩)
   ·skip
    rintro ⟨v114, adz_v114, gb119⟩ w24 ⟨h0_, h1_, h2_, h3_, h4_, h5_, h6_, h7_, h8_, h9_, h10_, h11_, h12_, h13_, h14_⟩
    have n0_ : Aside0 (Kd.V (Kd.int .i64) 2 w24 w.heap.size (fun k_ => some k_ ≠ (.slice (some ad108) t105.length co18 : Value).ownBlock ∧ some k_ ≠ (v114 : Value).ownBlock ∧ k_ ≠ g ∧ k_ ≠ gb101 ∧ k_ ≠ gb119) (.slice (some ad109) (rd_L4 t105 t102).length c108_0) (rd_L4 t105 t102)) := ⟨h0_⟩
    have n1_ : Aside0 (Kd.N (Kd.slice 2 (Kd.int .i64)) 22 w24 w.heap.size (fun k_ => some k_ ≠ (v114 : Value).ownBlock ∧ k_ ≠ g ∧ k_ ≠ gb101 ∧ k_ ≠ gb119) (.slice (some ad108) t105.length co18) t105) := ⟨h1_⟩
    have n2_ : Aside0 (Kd.R Kd.string 9 w24 w.heap.size (fun _ => True) v114 t113) := ⟨h2_⟩
    have n3_ : Aside0 (∃ c_, (v114 : Value) = .slice (some adz_v114) t113.length c_) := ⟨h3_⟩
    have n4_ : Aside0 (w24.heap[gb101]? = some (.cells #[.string (⟨#[]⟩ : ByteArray), .int .i64 0, .int .i64 0] 94 (0, 0))) := ⟨h4_⟩
    have n5_ : Aside0 (w24.heap[gb119]? = some (.cells #[.string (⟨#[]⟩ : ByteArray), .int .i64 0, .int .i64 0] 94 (0, 0))) := ⟨h5_⟩
    have n6_ : Aside0 (w.heap.size ≤ gb119) := ⟨h6_⟩
    have n7_ : Aside0 (w0.heap.size ≤ gb119) := ⟨h7_⟩
    have n8_ : Aside0 (g ≠ gb119) := ⟨h8_⟩
    have n9_ : Aside0 (gb119 ≠ g) := ⟨h9_⟩
    have n10_ : Aside0 (gb101 ≠ gb119) := ⟨h10_⟩
    have n11_ : Aside0 (gb119 ≠ gb101) := ⟨h11_⟩
    have n12_ : Aside0 (IsS81 w0 w24 g s0_0 t111 t112) := ⟨h12_⟩
    have n13_ : Aside0 (ac_ w w24 g none) := ⟨h13_⟩
    have n14_ : Aside0 (Below w0.heap.size w0 w24) := ⟨h14_⟩
    clear HO107
    clear HL108_0
    clear BK101
    clear HI0
    clear HK
    clear HB
    clear h0_ h1_ h2_ h3_ h4_ h5_ h6_ h7_ h8_ h9_ h10_ h11_ h12_ h13_ h14_
    have HL108_0 := n0_
    have HO107 := n1_
    have HO115 := n2_
    have HA_HO115 := n3_
    have BK101 := n4_
    have BK119 := n5_
    have GW119 := n6_
    have GE119 := n7_
    have NB0_119 := n8_
    have NB119_0 := n9_
    have NB101_119 := n10_
    have NB119_101 := n11_
    have HI0 := n12_
    have HK := n13_
    have HB := n14_
    clear n0_ n1_ n2_ n3_ n4_ n5_ n6_ n7_ n8_ n9_ n10_ n11_ n12_ n13_ n14_
    have hHeld := trivial
    obtain ⟨co25, eo25⟩ := HA_HO115.out
    clear HA_HO115
    subst eo25
    refine norm_ (a' := ?_) ?_ ?_
    rotate_left
    ·simp only [bt_, Act.put, lsa_, ls0_, ls1_]
     rfl
    refine one_ (i := 6) (N := some 25) #[t_,t_,t_,t_,t_,t_,t_,f_,t_,f_] rfl rfl (bZ_ HT_.out (by kernel_rfl)) (by decide) (fun K hK => ?_)
    (first | refine goes_ Tryd.func113 (by kernel_rfl) rfl #[.int .i64 100, .int .i64 t117] (by rfl) rfl rfl (by first | rfl | (simp only [lma_, lmc_, lmn_]; first | done | rfl)) ?_ | refine RPW.cj_ Tryd.func113 (by kernel_rfl) rfl #[.int .i64 100, .int .i64 t117] (by rfl) rfl rfl rfl (by first | rfl | (simp only [lma_, lmc_, lmn_]; first | done | rfl)) ?_ | refine RPW.ci_ Tryd.func113 (by kernel_rfl) rfl #[.int .i64 100, .int .i64 t117] (by rfl) rfl rfl rfl (by first | rfl | (simp only [lma_, lmc_, lmn_]; first | done | rfl)) ?_)
    with_reducible refine (bS_.calls 100 t117 t118 _ A11.out).mono ?_
    rintro e w' ⟨rfl, ⟨nd, rfl⟩⟩
    refine ⟨_, rfl, ?_⟩
    refine hK.out _ _ trivial (fun hHeld => ?_)
    clear hK K
    refine norm_ (a' := ?_) ?_ ?_
    rotate_left
    ·show Act.put _ (some 25) _ = _
     simp only [Act.put, lsa_, ls0_, ls1_, i64_w, i32_w]
     rfl
    refine pu 7 26 #[t_,t_,t_,t_,t_,t_,t_,t_,t_,f_] HT_ ?_
    exact norm_ (by first | (simp only [bt_, Act.put, lsa_, ls0_, ls1_]; done) | (simp only [bt_, Act.put, lsa_, ls0_, ls1_]; rfl)) (hJ0_3_5_6_8 (.slice (some adz_v114) t113.length co25, adz_v114, gb119) _ ⟨(vz HL108_0.out), (nz HO107.out), (rz HO115.out), ⟨_, rfl⟩, (kz BK101.out), (kz BK119.out), GW119.out, GE119.out, NB0_119.out, NB119_0.out, NB101_119.out, NB119_101.out, (by repeat (first | (with_reducible first | exact HI0.out | apply IsS81.alloc | apply IsS81.drewN | apply IsS81.drew | apply IsS81.set_1 | apply IsS81.set_2 | refine IsS81.far ?_ NB0_101.out _ | refine IsS81.far ?_ NB0_119.out _) | exact HI0.out)), (by repeat (first | (with_reducible first | exact HK.out | apply ac_.set_ | apply ad_ | apply af_ | apply ae_ | refine ag_ ?_ GW101.out _ | refine ag_ ?_ GW119.out _) | exact HK.out)), (by repeat (first | (with_reducible first | exact HB.out | apply bA_ | apply bN_ | apply bD_ | refine ab_ ?_ (IsS81.ge HI0.out) | refine ab_ ?_ GE101.out | refine ab_ ?_ GE119.out) | exact HB.out))⟩)
  ·skip
   rintro ⟨v114, adz_v114⟩ w23 ⟨h0_, h1_, h2_, h3_, h4_, h5_, h6_, h7_⟩
   have n0_ : Aside0 (Kd.V (Kd.int .i64) 2 w23 w.heap.size (fun k_ => some k_ ≠ (.slice (some ad108) t105.length co18 : Value).ownBlock ∧ some k_ ≠ (v114 : Value).ownBlock ∧ k_ ≠ g ∧ k_ ≠ gb101) (.slice (some ad109) (rd_L4 t105 t102).length c108_0) (rd_L4 t105 t102)) := ⟨h0_⟩
   have n1_ : Aside0 (Kd.N (Kd.slice 2 (Kd.int .i64)) 22 w23 w.heap.size (fun k_ => some k_ ≠ (v114 : Value).ownBlock ∧ k_ ≠ g ∧ k_ ≠ gb101) (.slice (some ad108) t105.length co18) t105) := ⟨h1_⟩
   have n2_ : Aside0 (Kd.R Kd.string 9 w23 w.heap.size (fun _ => True) v114 t113) := ⟨h2_⟩
   have n3_ : Aside0 (∃ c_, (v114 : Value) = .slice (some adz_v114) t113.length c_) := ⟨h3_⟩
   have n4_ : Aside0 (w23.heap[gb101]? = some (.cells #[.string (⟨#[]⟩ : ByteArray), .int .i64 0, .int .i64 0] 94 (0, 0))) := ⟨h4_⟩
   have n5_ : Aside0 (IsS81 w0 w23 g s0_0 t111 t112) := ⟨h5_⟩
   have n6_ : Aside0 (ac_ w w23 g none) := ⟨h6_⟩
   have n7_ : Aside0 (Below w0.heap.size w0 w23) := ⟨h7_⟩
   clear HO107
   clear HL108_0
   clear BK101
   clear HI0
   clear HK
   clear HB
   clear h0_ h1_ h2_ h3_ h4_ h5_ h6_ h7_
   have HL108_0 := n0_
   have HO107 := n1_
   have HO115 := n2_
   have HA_HO115 := n3_
   have BK101 := n4_
   have HI0 := n5_
   have HK := n6_
   have HB := n7_
   clear n0_ n1_ n2_ n3_ n4_ n5_ n6_ n7_
   have hHeld := trivial
   obtain ⟨co24, eo24⟩ := HA_HO115.out
   clear HA_HO115
   subst eo24
   refine norm_ (a' := ?_) ?_ ?_
   rotate_left
   ·simp only [bt_, Act.put, lsa_, ls0_, ls1_]
    rfl
   refine one_ (i := 8) (N := some 5) #[t_,t_,t_,t_,t_,t_,t_,t_,t_,f_] rfl rfl (bZ_ HT_.out (by kernel_rfl)) (by decide) (fun K hK => ?_)
   refine de_ ?hg (N := 5) ?hd (cs := #[.string (⟨#[]⟩ : ByteArray), .int .i64 0, .int .i64 0]) (t := 94) ?hr ?_; (case hd => rfl); (case hg => rfl); (case hr => (go_simp; try rfl))
   intro gb119 hg w25 hbox hb
   have n0_ := Aside0.mk (Kd.N_below (Kd.N_elderB (nz HO107.out) gb119 (Nat.le_of_eq hg.symm)) hb)
   have n1_ := Aside0.mk (Kd.V_below (Kd.V_elderB (vz HL108_0.out) gb119 (Nat.le_of_eq hg.symm)) hb)
   have n2_ := Aside0.mk (Kd.bI_ (rz HO115.out) hb)
   have n3_ := Aside0.mk (IsS81.below (by repeat (first | (with_reducible first | exact HI0.out | apply IsS81.alloc | apply IsS81.drewN | apply IsS81.drew | apply IsS81.set_1 | apply IsS81.set_2 | refine IsS81.far ?_ NB0_101.out _) | exact HI0.out)) hb)
   have n4_ := Aside0.mk (az_ (kz BK101.out) hb)
   have n5_ := Aside0.mk (ac_.trans (by repeat (first | (with_reducible first | exact HK.out | apply ac_.set_ | apply ad_ | apply af_ | apply ae_ | refine ag_ ?_ GW101.out _) | exact HK.out)) (ac_.of_below hb g none) (.inl rfl))
   have n6_ := Aside0.mk (ah_ (by repeat (first | (with_reducible first | exact HB.out | apply bA_ | apply bN_ | apply bD_ | refine ab_ ?_ (IsS81.ge HI0.out) | refine ab_ ?_ GE101.out) | exact HB.out)) hb)
   have n7_ := Aside0.mk (hbox)
   have n8_ := Aside0.mk ((by rw [hg]; exact (aZ_ (w := w) (g := g) (row := none) (by repeat (first | (with_reducible first | exact HK.out | apply ac_.set_ | apply ad_ | apply af_ | apply ae_ | refine ag_ ?_ GW101.out _) | exact HK.out))) : w.heap.size ≤ gb119))
   have n9_ := Aside0.mk ((Nat.le_trans HW0.out (by rw [hg]; exact (aZ_ (w := w) (g := g) (row := none) (by repeat (first | (with_reducible first | exact HK.out | apply ac_.set_ | apply ad_ | apply af_ | apply ae_ | refine ag_ ?_ GW101.out _) | exact HK.out))) : w.heap.size ≤ gb119) : w0.heap.size ≤ gb119))
   have n10_ := Aside0.mk ((by rw [hg]; exact Nat.ne_of_lt (bX_ (kz BK101.out)) : gb101 ≠ gb119))
   have n11_ := Aside0.mk ((by rw [hg]; exact Nat.ne_of_gt (bX_ (kz BK101.out)) : gb119 ≠ gb101))
   have n12_ := Aside0.mk ((by rw [hg]; exact Nat.ne_of_lt (IsS81.lt (show IsS81 w0 _ g s0_0 t111 t112 from by repeat (first | (with_reducible first | exact HI0.out | apply IsS81.alloc | apply IsS81.drewN | apply IsS81.drew | apply IsS81.set_1 | apply IsS81.set_2 | refine IsS81.far ?_ NB0_101.out _) | exact HI0.out))) : g ≠ gb119))
   have n13_ := Aside0.mk ((by rw [hg]; exact Nat.ne_of_gt (IsS81.lt (show IsS81 w0 _ g s0_0 t111 t112 from by repeat (first | (with_reducible first | exact HI0.out | apply IsS81.alloc | apply IsS81.drewN | apply IsS81.drew | apply IsS81.set_1 | apply IsS81.set_2 | refine IsS81.far ?_ NB0_101.out _) | exact HI0.out))) : gb119 ≠ g))
   clear HO107
   clear HL108_0
   clear HO115
   clear HI0
   clear BK101
   clear HK
   clear HB
   have HO107 := n0_
   have HL108_0 := n1_
   have HO115 := n2_
   have HI0 := n3_
   have BK101 := n4_
   have HK := n5_
   have HB := n6_
   have BK119 := n7_
   have GW119 := n8_
   have GE119 := n9_
   have NB101_119 := n10_
   have NB119_101 := n11_
   have NB0_119 := n12_
   have NB119_0 := n13_
   clear n0_ n1_ n2_ n3_ n4_ n5_ n6_ n7_ n8_ n9_ n10_ n11_ n12_ n13_
   clear hb hbox hg
   refine hK.out _ _ trivial (fun hHeld => ?_)
   clear hK K
   refine norm_ (a' := ?_) ?_ ?_
   rotate_left
   ·show Act.put _ (some 5) _ = _
    simp only [Act.put, lsa_, ls0_, ls1_, i64_w, i32_w]
    rfl
   exact norm_ (by first | (simp only [bt_, Act.put, lsa_, ls0_, ls1_]; done) | (simp only [bt_, Act.put, lsa_, ls0_, ls1_]; rfl)) (hJ0_3_5_6_8 (.slice (some adz_v114) t113.length co24, adz_v114, gb119) _ ⟨(vz (Kd.db_ HL108_0.out (fun _ hk => ⟨hk.1.1, ⟨hk.1.2.1, ⟨hk.1.2.2.1, ⟨hk.1.2.2.2, hk.2⟩⟩⟩⟩))), (nz (Kd.cQ_ HO107.out (fun _ hk => ⟨hk.1.1, ⟨hk.1.2.1, ⟨hk.1.2.2, hk.2⟩⟩⟩))), (rz HO115.out), ⟨_, rfl⟩, (kz BK101.out), (kz BK119.out), GW119.out, GE119.out, NB0_119.out, NB119_0.out, NB101_119.out, NB119_101.out, (by repeat (first | (with_reducible first | exact HI0.out | apply IsS81.alloc | apply IsS81.drewN | apply IsS81.drew | apply IsS81.set_1 | apply IsS81.set_2 | refine IsS81.far ?_ NB0_101.out _ | refine IsS81.far ?_ NB0_119.out _) | exact HI0.out)), (by repeat (first | (with_reducible first | exact HK.out | apply ac_.set_ | apply ad_ | apply af_ | apply ae_ | refine ag_ ?_ GW101.out _ | refine ag_ ?_ GW119.out _) | exact HK.out)), (by repeat (first | (with_reducible first | exact HB.out | apply bA_ | apply bN_ | apply bD_ | refine ab_ ?_ (IsS81.ge HI0.out) | refine ab_ ?_ GE101.out | refine ab_ ?_ GE119.out) | exact HB.out))⟩)
 rintro ⟨v114, adz_v114, gb119⟩ w24 ⟨h0_, h1_, h2_, h3_, h4_, h5_, h6_, h7_, h8_, h9_, h10_, h11_, h12_, h13_, h14_⟩
 have n0_ : Aside0 (Kd.V (Kd.int .i64) 2 w24 w.heap.size (fun k_ => some k_ ≠ (.slice (some ad108) t105.length co18 : Value).ownBlock ∧ some k_ ≠ (v114 : Value).ownBlock ∧ k_ ≠ g ∧ k_ ≠ gb101 ∧ k_ ≠ gb119) (.slice (some ad109) (rd_L4 t105 t102).length c108_0) (rd_L4 t105 t102)) := ⟨h0_⟩
 have n1_ : Aside0 (Kd.N (Kd.slice 2 (Kd.int .i64)) 22 w24 w.heap.size (fun k_ => some k_ ≠ (v114 : Value).ownBlock ∧ k_ ≠ g ∧ k_ ≠ gb101 ∧ k_ ≠ gb119) (.slice (some ad108) t105.length co18) t105) := ⟨h1_⟩
 have n2_ : Aside0 (Kd.R Kd.string 9 w24 w.heap.size (fun _ => True) v114 t113) := ⟨h2_⟩
 have n3_ : Aside0 (∃ c_, (v114 : Value) = .slice (some adz_v114) t113.length c_) := ⟨h3_⟩
 have n4_ : Aside0 (w24.heap[gb101]? = some (.cells #[.string (⟨#[]⟩ : ByteArray), .int .i64 0, .int .i64 0] 94 (0, 0))) := ⟨h4_⟩
 have n5_ : Aside0 (w24.heap[gb119]? = some (.cells #[.string (⟨#[]⟩ : ByteArray), .int .i64 0, .int .i64 0] 94 (0, 0))) := ⟨h5_⟩
 have n6_ : Aside0 (w.heap.size ≤ gb119) := ⟨h6_⟩
 have n7_ : Aside0 (w0.heap.size ≤ gb119) := ⟨h7_⟩
 have n8_ : Aside0 (g ≠ gb119) := ⟨h8_⟩
 have n9_ : Aside0 (gb119 ≠ g) := ⟨h9_⟩
 have n10_ : Aside0 (gb101 ≠ gb119) := ⟨h10_⟩
 have n11_ : Aside0 (gb119 ≠ gb101) := ⟨h11_⟩
 have n12_ : Aside0 (IsS81 w0 w24 g s0_0 t111 t112) := ⟨h12_⟩
 have n13_ : Aside0 (ac_ w w24 g none) := ⟨h13_⟩
 have n14_ : Aside0 (Below w0.heap.size w0 w24) := ⟨h14_⟩
 clear HO107
 clear HL108_0
 clear BK101
 clear HI0
 clear HK
 clear HB
 clear h0_ h1_ h2_ h3_ h4_ h5_ h6_ h7_ h8_ h9_ h10_ h11_ h12_ h13_ h14_
 have HL108_0 := n0_
 have HO107 := n1_
 have HO115 := n2_
 have HA_HO115 := n3_
 have BK101 := n4_
 have BK119 := n5_
 have GW119 := n6_
 have GE119 := n7_
 have NB0_119 := n8_
 have NB119_0 := n9_
 have NB101_119 := n10_
 have NB119_101 := n11_
 have HI0 := n12_
 have HK := n13_
 have HB := n14_
 clear n0_ n1_ n2_ n3_ n4_ n5_ n6_ n7_ n8_ n9_ n10_ n11_ n12_ n13_ n14_
 have hHeld := trivial
 obtain ⟨co25, eo25⟩ := HA_HO115.out
 clear HA_HO115
 subst eo25
 refine norm_ (a' := ?_) ?_ ?_
 rotate_left
 ·simp only [bt_, Act.put, lsa_, ls0_, ls1_]
  rfl
 refine one_ (i := 9) (N := none) #[t_,t_,t_,t_,t_,t_,t_,t_,t_,t_] rfl rfl (bZ_ HT_.out (by kernel_rfl)) (by decide) (fun K hK => ?_)
 have hs26 : w24.cell? ⟨gb119, 0, none⟩ = some (.string (⟨#[]⟩ : ByteArray)) := (ar_ BK119.out 0).trans rfl
 have hfs26 := ba_ BK119.out 0
 have hns26_0 := NB101_119.out
 have hms26_0 := NB119_101.out
 have hs27 : w24.cell? ⟨gb119, 1, none⟩ = some (.int .i64 0) := (ar_ BK119.out 1).trans rfl
 have hfs27 := ba_ BK119.out 1
 have hns27_0 := NB101_119.out
 have hms27_0 := NB119_101.out
 have hs28 : w24.cell? ⟨gb119, 2, none⟩ = some (.int .i64 0) := (ar_ BK119.out 2).trans rfl
 have hfs28 := ba_ BK119.out 2
 have hns28_0 := NB101_119.out
 have hms28_0 := NB119_101.out
 refine skip_ (w1 := ?_) (by rfl) rfl ?_ ?_
 rotate_left
 ·go_simp
  rfl
 refine hK.out _ _ trivial (fun hHeld => ?_)
 clear hK K
 refine done_ (cO_ HT_.out (by kernel_rfl)) ?_
 try go_wp2_with (first | ((with_reducible refine al_ (f := 65) rfl ?_); refine bf_ (some 28) rfl rfl Tryd.func65 (by kernel_rfl) rfl #[.pointer (some ⟨g, 0, none⟩), .int .i64 180] rfl (by first | rfl | (simp only [lma_, lmc_, lmn_]; first | done | rfl)) ?_; (with_reducible refine (aj_.calls g s0_0 t111 t112 180 t120 t121 t122 w0 _ ?side1 ?side2 A12.out).mono ?_); (case side1 => repeat (first | (with_reducible first | exact HI0.out | apply IsS81.alloc | apply IsS81.drewN | apply IsS81.drew | apply IsS81.set_1 | apply IsS81.set_2 | refine IsS81.far ?_ NB0_101.out _ | refine IsS81.far ?_ NB0_119.out _) | exact HI0.out)); (case side2 => repeat (first | (with_reducible first | exact HB.out | apply bA_ | apply bN_ | apply bD_ | refine ab_ ?_ (IsS81.ge HI0.out) | refine ab_ ?_ GE101.out | refine ab_ ?_ GE119.out) | exact HB.out)); rintro e w29 ⟨rfl, hi, hb, hk⟩; refine ⟨_, rfl, ?_⟩; replace BK101 := Aside0.mk (ac_.blk hk (g' := gb101) (o := .cells #[.string (⟨#[]⟩ : ByteArray), .int .i64 0, .int .i64 0] 94 (0, 0)) (by exact kf (kf (kf (kz BK101.out) NB101_119.out) NB101_119.out) NB101_119.out) NB101_0.out (by simp)); replace HO107 := Aside0.mk (Kd.cQ_ (Kd.N_keep (Kd.cQ_ (ok := fun k_ => (some k_ ≠ (.slice (some adz_v114) t113.length co25 : Value).ownBlock ∧ (k_ ≠ g ∧ (k_ ≠ gb101 ∧ k_ ≠ gb119)))) (nz (Kd.cQ_ (Kd.N_far (p := ⟨gb119, 2, none⟩) (Kd.N_far (p := ⟨gb119, 1, none⟩) (Kd.N_far (p := ⟨gb119, 0, none⟩) (Kd.cQ_ HO107.out (fun k_ hk => (⟨hk, hk.2.2.2⟩ : _ ∧ k_ ≠ gb119))) (fun _ hk => hk.2) (.string (rdOf ByteArray.empty t113 t102))) (fun _ hk => hk.2) (.int .i64 t118)) (fun _ hk => hk.2) (.int .i64 0)) (fun _ h_ => h_.1))) (fun k_ hk_ => (⟨hk_, hk_.2.1⟩ : _ ∧ k_ ≠ g))) hk (fun _ h => h.2)) (fun _ h => h.1)); replace HL108_0 := Aside0.mk (Kd.db_ (Kd.V_keep (Kd.db_ (ok := fun k_ => (some k_ ≠ (.slice (some ad108) t105.length co18 : Value).ownBlock ∧ (some k_ ≠ (.slice (some adz_v114) t113.length co25 : Value).ownBlock ∧ (k_ ≠ g ∧ (k_ ≠ gb101 ∧ k_ ≠ gb119))))) (vz (Kd.db_ (Kd.V_far (p := ⟨gb119, 2, none⟩) (Kd.V_far (p := ⟨gb119, 1, none⟩) (Kd.V_far (p := ⟨gb119, 0, none⟩) (Kd.db_ HL108_0.out (fun k_ hk => (⟨hk, hk.2.2.2.2⟩ : _ ∧ k_ ≠ gb119))) (fun _ hk => hk.2) (.string (rdOf ByteArray.empty t113 t102))) (fun _ hk => hk.2) (.int .i64 t118)) (fun _ hk => hk.2) (.int .i64 0)) (fun _ h_ => h_.1))) (fun k_ hk_ => (⟨hk_, hk_.2.2.1⟩ : _ ∧ k_ ≠ g))) hk (fun _ h => h.2)) (fun _ h => h.1)); replace HO115 := Aside0.mk (Kd.aG_ (Kd.cw_ (IsS81.apart (show IsS81 w0 _ g s0_0 t111 t112 from by repeat (first | (with_reducible first | exact HI0.out | apply IsS81.alloc | apply IsS81.drewN | apply IsS81.drew | apply IsS81.set_1 | apply IsS81.set_2 | refine IsS81.far ?_ NB0_101.out _ | refine IsS81.far ?_ NB0_119.out _) | exact HI0.out)) (rz (Kd.aG_ (Kd.R_far (p := ⟨gb119, 2, none⟩) (Kd.R_far (p := ⟨gb119, 1, none⟩) (Kd.R_far (p := ⟨gb119, 0, none⟩) (Kd.bY_ HO115.out BK119.out (by decide)) (fun _ hk => hk.2) (.string (rdOf ByteArray.empty t113 t102))) (fun _ hk => hk.2) (.int .i64 t118)) (fun _ hk => hk.2) (.int .i64 0)) (fun _ h_ => h_.1))) (by decide)) hk (fun _ h => h.2)) (fun _ h => h.1)); replace BK119 := Aside0.mk (ac_.blk hk (g' := gb119) (o := .cells #[.string (rdOf ByteArray.empty t113 t102), .int .i64 t118, .int .i64 0] 94 (0, 0)) (by exact kj3_2 (kj3_1 (kj3_0 (kz BK119.out)))) NB119_0.out (by simp)); replace HK := Aside0.mk (ac_.trans (by repeat (first | (with_reducible first | exact HK.out | apply ac_.set_ | apply ad_ | apply af_ | apply ae_ | refine ag_ ?_ GW101.out _ | refine ag_ ?_ GW119.out _) | exact HK.out)) hk (.inl rfl)); replace HB := Aside0.mk (hb); replace HI0 := Aside0.mk (hi); (try clear hb)) | ((with_reducible refine aS_ (N := 32) rfl ?_); refine Kd.R_lit (Kd.int .i64) _ 2 ?hg (N := 32) ?hd (xs := ([t120, t120, 0, 90, 45] : List Int)) (inner := [.int .i64 t120, .int .i64 t120, .int .i64 0, .int .i64 90, .int .i64 45]) (ok := fun _ => True) (okp := fun _ => True) ?hr ?hp (fun _ hk => hk) trivial (Below.refl _ _) (Nat.le_refl _) (by simp) ?_; (case hd => rfl); (case hg => rfl); (case hr => (go_simp; try rfl)); (case hp => exact (Reps.one (show Kd.M (Kd.int .i64) _ _ _ t120 [.int .i64 t120] from rfl) (Reps.one (show Kd.M (Kd.int .i64) _ _ _ t120 [.int .i64 t120] from rfl) (Reps.one (show Kd.M (Kd.int .i64) _ _ _ 0 [.int .i64 0] from rfl) (Reps.one (show Kd.M (Kd.int .i64) _ _ _ 90 [.int .i64 90] from rfl) (Reps.one (show Kd.M (Kd.int .i64) _ _ _ 45 [.int .i64 45] from rfl) (Reps.none _ _))))))); intro v124 w30 ho31 hb hg_ hnew_; clear hg_ hnew_; (first | rw [← Ny123.out] at ho31 | (simp only [Int.reduceToNat] at ho31; rw [← Ny123.out] at ho31)); replace HO107 := Aside0.mk (Kd.N_elder' (nz HO107.out) (Kd.bs_ ho31) hb); replace HL108_0 := Aside0.mk (Kd.V_elder' (vz HL108_0.out) (Kd.bs_ ho31) hb); replace HO115 := Aside0.mk (Kd.bI_ (rz HO115.out) hb); have HO125 := Aside0.mk (Kd.bw_ ho31 (aZ_ (w := w) (g := g) (row := none) (by repeat (first | (with_reducible first | exact HK.out | apply ac_.set_ | apply ad_ | apply af_ | apply ae_ | refine ag_ ?_ GW101.out _ | refine ag_ ?_ GW119.out _) | exact HK.out)))); replace BK101 := Aside0.mk (az_ (kz BK101.out) hb); replace BK119 := Aside0.mk (az_ (kz BK119.out) hb); replace HK := Aside0.mk (ac_.trans (by repeat (first | (with_reducible first | exact HK.out | apply ac_.set_ | apply ad_ | apply af_ | apply ae_ | refine ag_ ?_ GW101.out _ | refine ag_ ?_ GW119.out _) | exact HK.out)) (ac_.of_below hb g none) (.inl rfl)); replace HB := Aside0.mk (ah_ (by repeat (first | (with_reducible first | exact HB.out | apply bA_ | apply bN_ | apply bD_ | refine ab_ ?_ (IsS81.ge HI0.out) | refine ab_ ?_ GE101.out | refine ab_ ?_ GE119.out) | exact HB.out)) hb); replace HI0 := Aside0.mk (IsS81.below (by repeat (first | (with_reducible first | exact HI0.out | apply IsS81.alloc | apply IsS81.drewN | apply IsS81.drew | apply IsS81.set_1 | apply IsS81.set_2 | refine IsS81.far ?_ NB0_101.out _ | refine IsS81.far ?_ NB0_119.out _) | exact HI0.out)) hb); clear hb ho31; obtain ⟨Ao32, co32, eo32⟩ := Kd.bL_ HO125.out; subst eo32) | ((with_reducible refine al_ (f := 115) rfl ?_); refine bf_ (some 33) rfl rfl Tryd.func115 (by kernel_rfl) rfl #[.pointer (some ⟨g, 0, none⟩), .slice Ao32 y123.length co32] rfl (by first | rfl | (simp only [lma_, lmc_, lmn_]; first | done | rfl)) ?_; (with_reducible refine (bU_.calls g s0_0 t121 t122 _ _ y123 t126 t127 t128 w0 _ ?side1 ?side2 ?side3 ?side4 ?side5 A13.out).mono ?_); (case side1 => repeat (first | (with_reducible first | exact HI0.out | apply IsS81.alloc | apply IsS81.drewN | apply IsS81.drew | apply IsS81.set_1 | apply IsS81.set_2 | refine IsS81.far ?_ NB0_101.out _ | refine IsS81.far ?_ NB0_119.out _) | exact HI0.out)); (case side2 => repeat (first | (with_reducible first | exact HB.out | apply bA_ | apply bN_ | apply bD_ | refine ab_ ?_ (IsS81.ge HI0.out) | refine ab_ ?_ GE101.out | refine ab_ ?_ GE119.out) | exact HB.out)); (case side3 => exact cz (Kd.aE_ HO125.out).2.2); (case side4 => exact (Kd.aE_ HO125.out).2.1); (case side5 => exact far_slice (IsS81.own_ne HI0.out HO125.out (by decide))); rintro e w33 ⟨rfl, hi, hb, hk⟩; refine ⟨_, rfl, ?_⟩; replace BK101 := Aside0.mk (ac_.blk hk (g' := gb101) (o := .cells #[.string (⟨#[]⟩ : ByteArray), .int .i64 0, .int .i64 0] 94 (0, 0)) (kz BK101.out) NB101_0.out (by simp)); replace HO107 := Aside0.mk (Kd.cQ_ (Kd.N_keep (Kd.cQ_ (ok := fun k_ => ((some k_ ≠ (.slice (some adz_v114) t113.length co25 : Value).ownBlock ∧ (k_ ≠ g ∧ (k_ ≠ gb101 ∧ k_ ≠ gb119))) ∧ some k_ ≠ (.slice Ao32 y123.length co32 : Value).ownBlock)) (nz HO107.out) (fun k_ hk_ => (⟨hk_, hk_.1.2.1⟩ : _ ∧ k_ ≠ g))) hk (fun _ h => h.2)) (fun _ h => h.1)); replace HL108_0 := Aside0.mk (Kd.db_ (Kd.V_keep (Kd.db_ (ok := fun k_ => ((some k_ ≠ (.slice (some ad108) t105.length co18 : Value).ownBlock ∧ (some k_ ≠ (.slice (some adz_v114) t113.length co25 : Value).ownBlock ∧ (k_ ≠ g ∧ (k_ ≠ gb101 ∧ k_ ≠ gb119)))) ∧ some k_ ≠ (.slice Ao32 y123.length co32 : Value).ownBlock)) (vz HL108_0.out) (fun k_ hk_ => (⟨hk_, hk_.1.2.2.1⟩ : _ ∧ k_ ≠ g))) hk (fun _ h => h.2)) (fun _ h => h.1)); replace HO115 := Aside0.mk (Kd.aG_ (Kd.cw_ (IsS81.apart (show IsS81 w0 _ g s0_0 t121 t122 from by repeat (first | (with_reducible first | exact HI0.out | apply IsS81.alloc | apply IsS81.drewN | apply IsS81.drew | apply IsS81.set_1 | apply IsS81.set_2 | refine IsS81.far ?_ NB0_101.out _ | refine IsS81.far ?_ NB0_119.out _) | exact HI0.out)) (rz HO115.out) (by decide)) hk (fun _ h => h.2)) (fun _ h => h.1)); replace BK119 := Aside0.mk (ac_.blk hk (g' := gb119) (o := .cells #[.string (rdOf ByteArray.empty t113 t102), .int .i64 t118, .int .i64 0] 94 (0, 0)) (kz BK119.out) NB119_0.out (by simp)); replace HO125 := Aside0.mk (Kd.aG_ (Kd.cw_ (IsS81.apart (show IsS81 w0 _ g s0_0 t121 t122 from by repeat (first | (with_reducible first | exact HI0.out | apply IsS81.alloc | apply IsS81.drewN | apply IsS81.drew | apply IsS81.set_1 | apply IsS81.set_2 | refine IsS81.far ?_ NB0_101.out _ | refine IsS81.far ?_ NB0_119.out _) | exact HI0.out)) (rz HO125.out) (by decide)) hk (fun _ h => h.2)) (fun _ h => h.1)); replace HK := Aside0.mk (ac_.trans (by repeat (first | (with_reducible first | exact HK.out | apply ac_.set_ | apply ad_ | apply af_ | apply ae_ | refine ag_ ?_ GW101.out _ | refine ag_ ?_ GW119.out _) | exact HK.out)) hk (.inl rfl)); replace HB := Aside0.mk (hb); replace HI0 := Aside0.mk (hi); (try clear hb); have hnb34 := NB119_101.out; have hnc34 := NB101_119.out; have hnb35 := NB119_0.out; have hnc35 := NB0_119.out; obtain ⟨hcz36_0, hcz36_1, hcz36_2⟩ := cz3_ BK119.out; obtain ⟨hfz36_0, hfz36_1, hfz36_2⟩ := fz3_ BK119.out; have hnb37 := NB101_0.out; have hnc37 := NB0_101.out; obtain ⟨hcz38_0, hcz38_1, hcz38_2⟩ := cz3_ BK101.out; obtain ⟨hfz38_0, hfz38_1, hfz38_2⟩ := fz3_ BK101.out))
 refine bodyPost_ret (results_cell_row rfl _ _ gb101 94 #[.string (rdOf ByteArray.empty t113 t102), .int .i64 t118, .int .i64 t126] (0, 0) _ rfl (by exact kj3_2 (kj3_1 (kj3_0 (kf (kz BK101.out) NB101_119.out)))) Tryd.underlying94 rfl (by kernel_rfl)) rfl ?_
 exact ⟨by first | rfl | (simp [*, aw_, av_] <;> rfl), by repeat (first | (with_reducible first | exact HI0.out | apply IsS81.alloc | apply IsS81.drewN | apply IsS81.drew | apply IsS81.set_1 | apply IsS81.set_2 | refine IsS81.far ?_ NB0_101.out _ | refine IsS81.far ?_ NB0_119.out _) | exact HI0.out), by repeat (first | (with_reducible first | exact HB.out | apply bA_ | apply bN_ | apply bD_ | refine ab_ ?_ (IsS81.ge HI0.out) | refine ab_ ?_ GE101.out | refine ab_ ?_ GE119.out) | exact HB.out), by repeat (first | (with_reducible first | exact HK.out | apply ac_.set_ | apply ad_ | apply af_ | apply ae_ | refine ag_ ?_ GW101.out _ | refine ag_ ?_ GW119.out _) | exact HK.out)⟩
def ct_.f (s0_0 : List Int) (s0_1 : Int) (s0_2 : Int) (a1 : Int) (a2 : Int) : Option (Int × Int × Int × Int × Int × Int) := (aj_.f s0_0 s0_1 s0_2 (wrap64 (a1 - 2))).bind fun bt102 => ((aj_.f s0_0 bt102.2.1 bt102.2.2 (wrap64 (a2 - 2))).bind fun bt106 => ((bS_.f 60 (wrap64 (a1 - bt102.1))).bind fun t109 => ((aj_.f s0_0 bt106.2.1 bt106.2.2 t109).bind fun bt110 => ((bS_.f 60 (wrap64 (a2 - bt106.1))).bind fun t113 => ((aj_.f s0_0 bt110.2.1 bt110.2.2 t113).bind fun bt114 => (some (bt102.1, bt106.1, wrap64 (1 + bt110.1), wrap64 (1 + bt114.1), bt114.2.1, bt114.2.2)))))))
set_option maxHeartbeats 8000000 in
set_option maxRecDepth 100000 in
theorem ct_.calls (g : Nat) (s0_0 : List Int) (s0_1 : Int) (s0_2 : Int) (a1 : Int) (a2 : Int) (r1 : Int) (r2 : Int) (r3 : Int) (r4 : Int) (r5 : Int) (r6 : Int) (w0 w : World) (hI : IsS81 w0 w g s0_0 s0_1 s0_2) (hB : Below w0.heap.size w0 w) (h : ct_.f s0_0 s0_1 s0_2 a1 a2 = some (r1, r2, r3, r4, r5, r6)) :
  Calls Tryd.prog 98 #[.pointer (some ⟨g, 0, none⟩), .int .i64 a1, .int .i64 a2] w fun e w' => e = .returned (.agg #[.int .i64 r1, .int .i64 r2, .int .i64 r3, .int .i64 r4]) ∧ IsS81 w0 w' g s0_0 r5 r6 ∧ Below w0.heap.size w0 w' ∧ ac_ w w' g none := by
 have hu107 := Tryd.underlying107
 have HI0 := Aside0.mk hI
 have HK := Aside0.mk (ac_.refl w g none)
 have HL := Aside0.mk hB.size
 clear hI
 have HW0 := Aside0.mk hB.size
 have HB := Aside0.mk hB
 clear hB
 have H : ((aj_.f s0_0 s0_1 s0_2 (wrap64 (a1 - 2))).bind fun bt102 => ((aj_.f s0_0 bt102.2.1 bt102.2.2 (wrap64 (a2 - 2))).bind fun bt106 => ((bS_.f 60 (wrap64 (a1 - bt102.1))).bind fun t109 => ((aj_.f s0_0 bt106.2.1 bt106.2.2 t109).bind fun bt110 => ((bS_.f 60 (wrap64 (a2 - bt106.1))).bind fun t113 => ((aj_.f s0_0 bt110.2.1 bt110.2.2 t113).bind fun bt114 => (some (bt102.1, bt106.1, wrap64 (1 + bt110.1), wrap64 (1 + bt114.1), bt114.2.1, bt114.2.2)))))))) = some (r1, r2, r3, r4, r5, r6) := h
 clear h
 replace H := Option.bind_eq_some_iff.mp H
 obtain ⟨⟨t102, t103, t104⟩, A40, H⟩ := H
 (try dsimp only at H)
 have A4 := Aside0.mk A40
 clear A40
 replace H := Option.bind_eq_some_iff.mp H
 obtain ⟨⟨t106, t107, t108⟩, A50, H⟩ := H
 (try dsimp only at H)
 have A5 := Aside0.mk A50
 clear A50
 replace H := Option.bind_eq_some_iff.mp H
 obtain ⟨t109, A60, H⟩ := H
 (try dsimp only at H)
 have A6 := Aside0.mk A60
 clear A60
 replace H := Option.bind_eq_some_iff.mp H
 obtain ⟨⟨t110, t111, t112⟩, A70, H⟩ := H
 (try dsimp only at H)
 have A7 := Aside0.mk A70
 clear A70
 replace H := Option.bind_eq_some_iff.mp H
 obtain ⟨t113, A80, H⟩ := H
 (try dsimp only at H)
 have A8 := Aside0.mk A80
 clear A80
 replace H := Option.bind_eq_some_iff.mp H
 obtain ⟨⟨t114, t115, t116⟩, A90, H⟩ := H
 (try dsimp only at H)
 have A9 := Aside0.mk A90
 clear A90
 simp only [Option.some.injEq, Prod.mk.injEq] at H
 obtain ⟨rfl, rfl, rfl, rfl, rfl, rfl⟩ := H
 go_enter Tryd.func98, Tryd.ntmps98
 go_wp2_with (first | ((with_reducible refine aS_ (N := 6) rfl ?_); refine bB_ ?hg (N := 6) ?hd (cs := #[.int .i64 0, .int .i64 0, .int .i64 0, .int .i64 0]) (t := 107) ?hr ?_; (case hd => rfl); (case hg => rfl); (case hr => (go_simp; try rfl)); intro gb101 hg w10 hbox hb; replace HB := Aside0.mk (ah_ (by repeat (first | (with_reducible first | exact HB.out | apply bA_ | apply bN_ | apply bD_ | refine ab_ ?_ (IsS81.ge HI0.out)) | exact HB.out)) hb); have BK101 := Aside0.mk (hbox); have GW101 := Aside0.mk ((by rw [hg]; exact (aZ_ (w := w) (g := g) (row := none) (by repeat (first | (with_reducible first | exact HK.out | apply ac_.set_ | apply ad_ | apply af_ | apply ae_) | exact HK.out))) : w.heap.size ≤ gb101)); have GE101 := Aside0.mk ((Nat.le_trans HW0.out (by rw [hg]; exact (aZ_ (w := w) (g := g) (row := none) (by repeat (first | (with_reducible first | exact HK.out | apply ac_.set_ | apply ad_ | apply af_ | apply ae_) | exact HK.out))) : w.heap.size ≤ gb101) : w0.heap.size ≤ gb101)); replace HK := Aside0.mk (ac_.trans (by repeat (first | (with_reducible first | exact HK.out | apply ac_.set_ | apply ad_ | apply af_ | apply ae_) | exact HK.out)) (ac_.of_below hb g none) (.inl rfl)); have NB0_101 := Aside0.mk ((by rw [hg]; exact Nat.ne_of_lt (IsS81.lt (show IsS81 w0 _ g s0_0 s0_1 s0_2 from by repeat (first | (with_reducible first | exact HI0.out | apply IsS81.alloc | apply IsS81.drewN | apply IsS81.drew | apply IsS81.set_1 | apply IsS81.set_2) | exact HI0.out))) : g ≠ gb101)); have NB101_0 := Aside0.mk ((by rw [hg]; exact Nat.ne_of_gt (IsS81.lt (show IsS81 w0 _ g s0_0 s0_1 s0_2 from by repeat (first | (with_reducible first | exact HI0.out | apply IsS81.alloc | apply IsS81.drewN | apply IsS81.drew | apply IsS81.set_1 | apply IsS81.set_2) | exact HI0.out))) : gb101 ≠ g)); replace HI0 := Aside0.mk (IsS81.below (by repeat (first | (with_reducible first | exact HI0.out | apply IsS81.alloc | apply IsS81.drewN | apply IsS81.drew | apply IsS81.set_1 | apply IsS81.set_2) | exact HI0.out)) hb); clear hb hbox hg) | ((with_reducible refine al_ (f := 65) rfl ?_); refine bf_ (some 11) rfl rfl Tryd.func65 (by kernel_rfl) rfl #[.pointer (some ⟨g, 0, none⟩), .int .i64 (wrap64 (a1 - 2))] rfl (by first | rfl | (simp only [lma_, lmc_, lmn_]; first | done | rfl)) ?_; (with_reducible refine (aj_.calls g s0_0 s0_1 s0_2 (wrap64 (a1 - 2)) t102 t103 t104 w0 _ ?side1 ?side2 A4.out).mono ?_); (case side1 => repeat (first | (with_reducible first | exact HI0.out | apply IsS81.alloc | apply IsS81.drewN | apply IsS81.drew | apply IsS81.set_1 | apply IsS81.set_2 | refine IsS81.far ?_ NB0_101.out _) | exact HI0.out)); (case side2 => repeat (first | (with_reducible first | exact HB.out | apply bA_ | apply bN_ | apply bD_ | refine ab_ ?_ (IsS81.ge HI0.out) | refine ab_ ?_ GE101.out) | exact HB.out)); rintro e w11 ⟨rfl, hi, hb, hk⟩; refine ⟨_, rfl, ?_⟩; replace BK101 := Aside0.mk (ac_.blk hk (g' := gb101) (o := .cells #[.int .i64 0, .int .i64 0, .int .i64 0, .int .i64 0] 107 (0, 0)) (kz BK101.out) NB101_0.out (by simp)); replace HK := Aside0.mk (ac_.trans (by repeat (first | (with_reducible first | exact HK.out | apply ac_.set_ | apply ad_ | apply af_ | apply ae_ | refine ag_ ?_ GW101.out _) | exact HK.out)) hk (.inl rfl)); replace HB := Aside0.mk (hb); replace HI0 := Aside0.mk (hi); (try clear hb)) | ((with_reducible refine aS_ (N := 7) rfl ?_); refine bB_ ?hg (N := 7) ?hd (cs := #[.int .i64 0, .int .i64 0, .int .i64 0, .int .i64 0]) (t := 107) ?hr ?_; (case hd => rfl); (case hg => rfl); (case hr => (go_simp; try rfl)); intro gb105 hg w12 hbox hb; replace HB := Aside0.mk (ah_ (by repeat (first | (with_reducible first | exact HB.out | apply bA_ | apply bN_ | apply bD_ | refine ab_ ?_ (IsS81.ge HI0.out) | refine ab_ ?_ GE101.out) | exact HB.out)) hb); have BK105 := Aside0.mk (hbox); have GW105 := Aside0.mk ((by rw [hg]; exact (aZ_ (w := w) (g := g) (row := none) (by repeat (first | (with_reducible first | exact HK.out | apply ac_.set_ | apply ad_ | apply af_ | apply ae_ | refine ag_ ?_ GW101.out _) | exact HK.out))) : w.heap.size ≤ gb105)); have GE105 := Aside0.mk ((Nat.le_trans HW0.out (by rw [hg]; exact (aZ_ (w := w) (g := g) (row := none) (by repeat (first | (with_reducible first | exact HK.out | apply ac_.set_ | apply ad_ | apply af_ | apply ae_ | refine ag_ ?_ GW101.out _) | exact HK.out))) : w.heap.size ≤ gb105) : w0.heap.size ≤ gb105)); replace HK := Aside0.mk (ac_.trans (by repeat (first | (with_reducible first | exact HK.out | apply ac_.set_ | apply ad_ | apply af_ | apply ae_ | refine ag_ ?_ GW101.out _) | exact HK.out)) (ac_.of_below hb g none) (.inl rfl)); have NB101_105 := Aside0.mk ((by rw [hg]; exact Nat.ne_of_lt (bX_ (kz BK101.out)) : gb101 ≠ gb105)); have NB105_101 := Aside0.mk ((by rw [hg]; exact Nat.ne_of_gt (bX_ (kz BK101.out)) : gb105 ≠ gb101)); replace BK101 := Aside0.mk (az_ (kz BK101.out) hb); have NB0_105 := Aside0.mk ((by rw [hg]; exact Nat.ne_of_lt (IsS81.lt (show IsS81 w0 _ g s0_0 t103 t104 from by repeat (first | (with_reducible first | exact HI0.out | apply IsS81.alloc | apply IsS81.drewN | apply IsS81.drew | apply IsS81.set_1 | apply IsS81.set_2 | refine IsS81.far ?_ NB0_101.out _) | exact HI0.out))) : g ≠ gb105)); have NB105_0 := Aside0.mk ((by rw [hg]; exact Nat.ne_of_gt (IsS81.lt (show IsS81 w0 _ g s0_0 t103 t104 from by repeat (first | (with_reducible first | exact HI0.out | apply IsS81.alloc | apply IsS81.drewN | apply IsS81.drew | apply IsS81.set_1 | apply IsS81.set_2 | refine IsS81.far ?_ NB0_101.out _) | exact HI0.out))) : gb105 ≠ g)); replace HI0 := Aside0.mk (IsS81.below (by repeat (first | (with_reducible first | exact HI0.out | apply IsS81.alloc | apply IsS81.drewN | apply IsS81.drew | apply IsS81.set_1 | apply IsS81.set_2 | refine IsS81.far ?_ NB0_101.out _) | exact HI0.out)) hb); clear hb hbox hg; have hnb13 := NB105_101.out; have hnc13 := NB101_105.out; have hnb14 := NB105_0.out; have hnc14 := NB0_105.out; obtain ⟨hcz15_0, hcz15_1, hcz15_2, hcz15_3⟩ := cz4_ BK105.out; obtain ⟨hfz15_0, hfz15_1, hfz15_2, hfz15_3⟩ := fz4_ BK105.out) | ((with_reducible refine al_ (f := 65) rfl ?_); refine bf_ (some 16) rfl rfl Tryd.func65 (by kernel_rfl) rfl #[.pointer (some ⟨g, 0, none⟩), .int .i64 (wrap64 (a2 - 2))] rfl (by first | rfl | (simp only [lma_, lmc_, lmn_]; first | done | rfl)) ?_; (with_reducible refine (aj_.calls g s0_0 t103 t104 (wrap64 (a2 - 2)) t106 t107 t108 w0 _ ?side1 ?side2 A5.out).mono ?_); (case side1 => repeat (first | (with_reducible first | exact HI0.out | apply IsS81.alloc | apply IsS81.drewN | apply IsS81.drew | apply IsS81.set_1 | apply IsS81.set_2 | refine IsS81.far ?_ NB0_101.out _ | refine IsS81.far ?_ NB0_105.out _) | exact HI0.out)); (case side2 => repeat (first | (with_reducible first | exact HB.out | apply bA_ | apply bN_ | apply bD_ | refine ab_ ?_ (IsS81.ge HI0.out) | refine ab_ ?_ GE101.out | refine ab_ ?_ GE105.out) | exact HB.out)); rintro e w16 ⟨rfl, hi, hb, hk⟩; refine ⟨_, rfl, ?_⟩; replace BK101 := Aside0.mk (ac_.blk hk (g' := gb101) (o := .cells #[.int .i64 0, .int .i64 0, .int .i64 0, .int .i64 0] 107 (0, 0)) (by exact kf (kf (kf (kf (kz BK101.out) NB101_105.out) NB101_105.out) NB101_105.out) NB101_105.out) NB101_0.out (by simp)); replace BK105 := Aside0.mk (ac_.blk hk (g' := gb105) (o := .cells #[.int .i64 t102, .int .i64 0, .int .i64 0, .int .i64 0] 107 (0, 0)) (by exact kj4_3 (kj4_2 (kj4_1 (kj4_0 (kz BK105.out))))) NB105_0.out (by simp)); replace HK := Aside0.mk (ac_.trans (by repeat (first | (with_reducible first | exact HK.out | apply ac_.set_ | apply ad_ | apply af_ | apply ae_ | refine ag_ ?_ GW101.out _ | refine ag_ ?_ GW105.out _) | exact HK.out)) hk (.inl rfl)); replace HB := Aside0.mk (hb); replace HI0 := Aside0.mk (hi); (try clear hb); obtain ⟨hcz17_0, hcz17_1, hcz17_2, hcz17_3⟩ := cz4_ BK105.out; obtain ⟨hfz17_0, hfz17_1, hfz17_2, hfz17_3⟩ := fz4_ BK105.out) | ((with_reducible refine al_ (f := 113) rfl ?_); refine bf_ (some 23) rfl rfl Tryd.func113 (by kernel_rfl) rfl #[.int .i64 60, .int .i64 (wrap64 (a1 - t102))] rfl (by first | rfl | (simp only [lma_, lmc_, lmn_]; first | done | rfl)) ?_; (with_reducible refine (bS_.calls 60 (wrap64 (a1 - t102)) t109 _ A6.out).mono ?_); rintro e w' ⟨rfl, ⟨nd, rfl⟩⟩; refine ⟨_, rfl, ?_⟩) | ((with_reducible refine al_ (f := 65) rfl ?_); refine bf_ (some 24) rfl rfl Tryd.func65 (by kernel_rfl) rfl #[.pointer (some ⟨g, 0, none⟩), .int .i64 t109] rfl (by first | rfl | (simp only [lma_, lmc_, lmn_]; first | done | rfl)) ?_; (with_reducible refine (aj_.calls g s0_0 t107 t108 t109 t110 t111 t112 w0 _ ?side1 ?side2 A7.out).mono ?_); (case side1 => repeat (first | (with_reducible first | exact HI0.out | apply IsS81.alloc | apply IsS81.drewN | apply IsS81.drew | apply IsS81.set_1 | apply IsS81.set_2 | refine IsS81.far ?_ NB0_101.out _ | refine IsS81.far ?_ NB0_105.out _) | exact HI0.out)); (case side2 => repeat (first | (with_reducible first | exact HB.out | apply bA_ | apply bN_ | apply bD_ | refine ab_ ?_ (IsS81.ge HI0.out) | refine ab_ ?_ GE101.out | refine ab_ ?_ GE105.out) | exact HB.out)); rintro e w18 ⟨rfl, hi, hb, hk⟩; refine ⟨_, rfl, ?_⟩; replace BK101 := Aside0.mk (ac_.blk hk (g' := gb101) (o := .cells #[.int .i64 0, .int .i64 0, .int .i64 0, .int .i64 0] 107 (0, 0)) (by exact kf (kz BK101.out) NB101_105.out) NB101_0.out (by simp)); replace BK105 := Aside0.mk (ac_.blk hk (g' := gb105) (o := .cells #[.int .i64 t102, .int .i64 t106, .int .i64 0, .int .i64 0] 107 (0, 0)) (by exact kj4_1 (kz BK105.out)) NB105_0.out (by simp)); replace HK := Aside0.mk (ac_.trans (by repeat (first | (with_reducible first | exact HK.out | apply ac_.set_ | apply ad_ | apply af_ | apply ae_ | refine ag_ ?_ GW101.out _ | refine ag_ ?_ GW105.out _) | exact HK.out)) hk (.inl rfl)); replace HB := Aside0.mk (hb); replace HI0 := Aside0.mk (hi); (try clear hb); obtain ⟨hcz19_0, hcz19_1, hcz19_2, hcz19_3⟩ := cz4_ BK105.out; obtain ⟨hfz19_0, hfz19_1, hfz19_2, hfz19_3⟩ := fz4_ BK105.out) | ((with_reducible refine al_ (f := 113) rfl ?_); refine bf_ (some 32) rfl rfl Tryd.func113 (by kernel_rfl) rfl #[.int .i64 60, .int .i64 (wrap64 (a2 - t106))] rfl (by first | rfl | (simp only [lma_, lmc_, lmn_]; first | done | rfl)) ?_; (with_reducible refine (bS_.calls 60 (wrap64 (a2 - t106)) t113 _ A8.out).mono ?_); rintro e w' ⟨rfl, ⟨nd, rfl⟩⟩; refine ⟨_, rfl, ?_⟩) | ((with_reducible refine al_ (f := 65) rfl ?_); refine bf_ (some 33) rfl rfl Tryd.func65 (by kernel_rfl) rfl #[.pointer (some ⟨g, 0, none⟩), .int .i64 t113] rfl (by first | rfl | (simp only [lma_, lmc_, lmn_]; first | done | rfl)) ?_; (with_reducible refine (aj_.calls g s0_0 t111 t112 t113 t114 t115 t116 w0 _ ?side1 ?side2 A9.out).mono ?_); (case side1 => repeat (first | (with_reducible first | exact HI0.out | apply IsS81.alloc | apply IsS81.drewN | apply IsS81.drew | apply IsS81.set_1 | apply IsS81.set_2 | refine IsS81.far ?_ NB0_101.out _ | refine IsS81.far ?_ NB0_105.out _) | exact HI0.out)); (case side2 => repeat (first | (with_reducible first | exact HB.out | apply bA_ | apply bN_ | apply bD_ | refine ab_ ?_ (IsS81.ge HI0.out) | refine ab_ ?_ GE101.out | refine ab_ ?_ GE105.out) | exact HB.out)); rintro e w20 ⟨rfl, hi, hb, hk⟩; refine ⟨_, rfl, ?_⟩; replace BK101 := Aside0.mk (ac_.blk hk (g' := gb101) (o := .cells #[.int .i64 0, .int .i64 0, .int .i64 0, .int .i64 0] 107 (0, 0)) (by exact kf (kz BK101.out) NB101_105.out) NB101_0.out (by simp)); replace BK105 := Aside0.mk (ac_.blk hk (g' := gb105) (o := .cells #[.int .i64 t102, .int .i64 t106, .int .i64 (wrap64 (1 + t110)), .int .i64 0] 107 (0, 0)) (by exact kj4_2 (kz BK105.out)) NB105_0.out (by simp)); replace HK := Aside0.mk (ac_.trans (by repeat (first | (with_reducible first | exact HK.out | apply ac_.set_ | apply ad_ | apply af_ | apply ae_ | refine ag_ ?_ GW101.out _ | refine ag_ ?_ GW105.out _) | exact HK.out)) hk (.inl rfl)); replace HB := Aside0.mk (hb); replace HI0 := Aside0.mk (hi); (try clear hb); obtain ⟨hcz21_0, hcz21_1, hcz21_2, hcz21_3⟩ := cz4_ BK105.out; obtain ⟨hfz21_0, hfz21_1, hfz21_2, hfz21_3⟩ := fz4_ BK105.out; have hnb22 := NB101_0.out; have hnc22 := NB0_101.out; obtain ⟨hcz23_0, hcz23_1, hcz23_2, hcz23_3⟩ := cz4_ BK101.out; obtain ⟨hfz23_0, hfz23_1, hfz23_2, hfz23_3⟩ := fz4_ BK101.out))
 refine bodyPost_ret (results_cell_row rfl _ _ gb101 107 #[.int .i64 t102, .int .i64 t106, .int .i64 (wrap64 (1 + t110)), .int .i64 (wrap64 (1 + t114))] (0, 0) _ rfl (by exact kj4_3 (kj4_2 (kj4_1 (kj4_0 (kf (kz BK101.out) NB101_105.out))))) Tryd.underlying107 rfl (by kernel_rfl)) rfl ?_
 exact ⟨by first | rfl | (simp [*, aw_, av_] <;> rfl), by repeat (first | (with_reducible first | exact HI0.out | apply IsS81.alloc | apply IsS81.drewN | apply IsS81.drew | apply IsS81.set_1 | apply IsS81.set_2 | refine IsS81.far ?_ NB0_101.out _ | refine IsS81.far ?_ NB0_105.out _) | exact HI0.out), by repeat (first | (with_reducible first | exact HB.out | apply bA_ | apply bN_ | apply bD_ | refine ab_ ?_ (IsS81.ge HI0.out) | refine ab_ ?_ GE101.out | refine ab_ ?_ GE105.out) | exact HB.out), by repeat (first | (with_reducible first | exact HK.out | apply ac_.set_ | apply ad_ | apply af_ | apply ae_ | refine ag_ ?_ GW101.out _ | refine ag_ ?_ GW105.out _) | exact HK.out)⟩
def aH_.l0 : Nat → Int → List Int → Int → Int → ByteArray → ByteArray → Int → ByteArray → Int → Int → Int → Int → List (S107) → Option (ByteArray × ByteArray × Int × ByteArray × Int × Int × Int × Int × (List (S107)) × Int × Int)
 | 0, _, _, _, _, _, _, _, _, _, _, _, _, _ => none
 | k + 1, x6, x1000, x1001, x1002, x112000, x112001, x112002, x112003, x112004, x112005, x112006, x112007, x112008 => if x6 > 0 then ((ct_.f x1000 x1001 x1002 x112006 x112007).bind fun bt126 => (if x112008.length < 4398046511104 then (aH_.l0 k (wrap64 (x6 - 1)) x1000 bt126.2.2.2.2.1 bt126.2.2.2.2.2 x112000 x112001 x112002 x112003 x112004 x112005 x112006 x112007 (x112008 ++ [(⟨bt126.1, bt126.2.1, bt126.2.2.1, bt126.2.2.2.1⟩ : S107)])) else (none))) else (some (x112000, x112001, x112002, x112003, x112004, x112005, x112006, x112007, x112008, x1001, x1002))
def aH_.f (k : Nat) (s0_0 : List Int) (s0_1 : Int) (s0_2 : Int) (a1 : ByteArray) : Option (ByteArray × ByteArray × Int × ByteArray × Int × Int × Int × Int × (List (S107)) × Int × Int) := (aR_.f s0_0 s0_1 s0_2 (([(⟨#[102, 49]⟩ : ByteArray), (⟨#[102, 50]⟩ : ByteArray)] : List ByteArray))).bind fun bt105 => ((aj_.f s0_0 bt105.2.1 bt105.2.2 20).bind fun bt108 => ((bh_.f s0_0 bt108.2.1 bt108.2.2).bind fun bt112 => ((aj_.f s0_0 bt112.2.2.2.1 bt112.2.2.2.2 900).bind fun bt117 => ((aj_.f s0_0 bt117.2.1 bt117.2.2 900).bind fun bt120 => ((aj_.f s0_0 bt120.2.1 bt120.2.2 4).bind fun bt123 => (aH_.l0 k bt123.1 s0_0 bt123.2.1 bt123.2.2 a1 bt105.1 bt108.1 bt112.1 bt112.2.1 bt112.2.2.1 (wrap64 (100 + bt117.1)) (wrap64 (100 + bt120.1)) ([] : List (S107))))))))
def aH_.T8 : Bool × List (List Nat × List Nat) := (true, [([], []), ([0], [0]), ([], []), ([], []), ([3], [3]), ([], []), ([5], [5]), ([2, 4, 6], [2, 4, 6]), ([7], [7]), ([1, 8, 7], [1, 8]), ([0, 1, 2, 3, 4, 5, 6, 7, 8, 9], []), ([10, 9, 9, 0, 1, 2, 3, 4, 5, 6, 7, 8, 9], [9, 10])])
def aH_.B8 : List Nat := [0, 1, 0, 0, 8, 0, 32, 124, 252, 511, 1023, 2047]
theorem aH_.tab8 : rtab .any (opsOf Tryd.f87 8) = aH_.T8 := by kernel_rfl
theorem aH_.bits8 : cE_ aH_.T8.2 aH_.B8 = true := by kernel_rfl
set_option maxHeartbeats 8000000 in
set_option maxRecDepth 100000 in
theorem aH_.calls (k : Nat) (g : Nat) (s0_0 : List Int) (s0_1 : Int) (s0_2 : Int) (a1 : ByteArray) (r1 : ByteArray) (r2 : ByteArray) (r3 : Int) (r4 : ByteArray) (r5 : Int) (r6 : Int) (r7 : Int) (r8 : Int) (r9 : List (S107)) (r10 : Int) (r11 : Int) (w0 w : World) (hI : IsS81 w0 w g s0_0 s0_1 s0_2) (hB : Below w0.heap.size w0 w) (h : aH_.f k s0_0 s0_1 s0_2 a1 = some (r1, r2, r3, r4, r5, r6, r7, r8, r9, r10, r11)) :
  Calls Tryd.prog 87 #[.pointer (some ⟨g, 0, none⟩), .string a1] w fun e w' => ∃ v8_ : Value, e = .returned (.agg #[.string r1, .string r2, .int .i64 r3, .string r4, .int .i64 r5, .int .i64 r6, .int .i64 r7, .int .i64 r8, v8_]) ∧ Kd.R k107 107 w' w.heap.size (fun _ => True) v8_ r9 ∧ IsS81 w0 w' g s0_0 r10 r11 ∧ Below w0.heap.size w0 w' ∧ ac_ w w' g none := by
 have hu97 := Tryd.underlying97
 have hu94 := Tryd.underlying94
 have HI0 := Aside0.mk hI
 have HK := Aside0.mk (ac_.refl w g none)
 have HL := Aside0.mk hB.size
 clear hI
 have HW0 := Aside0.mk hB.size
 have HB := Aside0.mk hB
 clear hB
 have H : ((aR_.f s0_0 s0_1 s0_2 (([(⟨#[102, 49]⟩ : ByteArray), (⟨#[102, 50]⟩ : ByteArray)] : List ByteArray))).bind fun bt105 => ((aj_.f s0_0 bt105.2.1 bt105.2.2 20).bind fun bt108 => ((bh_.f s0_0 bt108.2.1 bt108.2.2).bind fun bt112 => ((aj_.f s0_0 bt112.2.2.2.1 bt112.2.2.2.2 900).bind fun bt117 => ((aj_.f s0_0 bt117.2.1 bt117.2.2 900).bind fun bt120 => ((aj_.f s0_0 bt120.2.1 bt120.2.2 4).bind fun bt123 => (aH_.l0 k bt123.1 s0_0 bt123.2.1 bt123.2.2 a1 bt105.1 bt108.1 bt112.1 bt112.2.1 bt112.2.2.1 (wrap64 (100 + bt117.1)) (wrap64 (100 + bt120.1)) ([] : List (S107))))))))) = some (r1, r2, r3, r4, r5, r6, r7, r8, r9, r10, r11) := h
 clear h
 obtain ⟨y102, hy102⟩ : ∃ y_ : List ByteArray, y_ = (([(⟨#[102, 49]⟩ : ByteArray), (⟨#[102, 50]⟩ : ByteArray)] : List ByteArray)) := ⟨_, rfl⟩
 replace H : ((aR_.f s0_0 s0_1 s0_2 y102).bind fun bt105 => ((aj_.f s0_0 bt105.2.1 bt105.2.2 20).bind fun bt108 => ((bh_.f s0_0 bt108.2.1 bt108.2.2).bind fun bt112 => ((aj_.f s0_0 bt112.2.2.2.1 bt112.2.2.2.2 900).bind fun bt117 => ((aj_.f s0_0 bt117.2.1 bt117.2.2 900).bind fun bt120 => ((aj_.f s0_0 bt120.2.1 bt120.2.2 4).bind fun bt123 => (aH_.l0 k bt123.1 s0_0 bt123.2.1 bt123.2.2 a1 bt105.1 bt108.1 bt112.1 bt112.2.1 bt112.2.2.1 (wrap64 (100 + bt117.1)) (wrap64 (100 + bt120.1)) ([] : List (S107))))))))) = some (r1, r2, r3, r4, r5, r6, r7, r8, r9, r10, r11) := by first | (rw [hy102]; with_reducible exact H) | (have H2_ := (Option.bind_some _ _).symm.trans H; rw [hy102]; with_reducible exact H2_) | (have H2_ := (Option.bind_some _ _).symm.trans H; with_reducible exact H2_) | with_reducible exact H | (rw [hy102]; exact H) | exact H
 have Ny102 := Aside0.mk hy102
 clear hy102
 replace H := Option.bind_eq_some_iff.mp H
 obtain ⟨⟨t105, t106, t107⟩, A30, H⟩ := H
 (try dsimp only at H)
 have A3 := Aside0.mk A30
 clear A30
 replace H := Option.bind_eq_some_iff.mp H
 obtain ⟨⟨t108, t109, t110⟩, A40, H⟩ := H
 (try dsimp only at H)
 have A4 := Aside0.mk A40
 clear A40
 replace H := Option.bind_eq_some_iff.mp H
 obtain ⟨⟨t112, t113, t114, t115, t116⟩, A50, H⟩ := H
 (try dsimp only at H)
 have A5 := Aside0.mk A50
 clear A50
 replace H := Option.bind_eq_some_iff.mp H
 obtain ⟨⟨t117, t118, t119⟩, A60, H⟩ := H
 (try dsimp only at H)
 have A6 := Aside0.mk A60
 clear A60
 replace H := Option.bind_eq_some_iff.mp H
 obtain ⟨⟨t120, t121, t122⟩, A70, H⟩ := H
 (try dsimp only at H)
 have A7 := Aside0.mk A70
 clear A70
 replace H := Option.bind_eq_some_iff.mp H
 obtain ⟨⟨t123, t124, t125⟩, A80, H⟩ := H
 (try dsimp only at H)
 have A8 := Aside0.mk A80
 clear A80
 have H' := Aside0.mk H
 clear H
 go_enter Tryd.func87, Tryd.ntmps87
 go_wp2_with (first | ((with_reducible refine aS_ (N := 4) rfl ?_); refine bB_ ?hg (N := 4) ?hd (cs := #[.string (⟨#[]⟩ : ByteArray), .string (⟨#[]⟩ : ByteArray), .int .i64 0, .string (⟨#[]⟩ : ByteArray), .int .i64 0, .int .i64 0, .int .i64 0, .int .i64 0, .slice none 0 0]) (t := 97) ?hr ?_; (case hd => rfl); (case hg => rfl); (case hr => (go_simp; try rfl)); intro gb101 hg w9 hbox hb; replace HB := Aside0.mk (ah_ (by repeat (first | (with_reducible first | exact HB.out | apply bA_ | apply bN_ | apply bD_ | refine ab_ ?_ (IsS81.ge HI0.out)) | exact HB.out)) hb); have BK101 := Aside0.mk (hbox); have GW101 := Aside0.mk ((by rw [hg]; exact (aZ_ (w := w) (g := g) (row := none) (by repeat (first | (with_reducible first | exact HK.out | apply ac_.set_ | apply ad_ | apply af_ | apply ae_) | exact HK.out))) : w.heap.size ≤ gb101)); have GE101 := Aside0.mk ((Nat.le_trans HW0.out (by rw [hg]; exact (aZ_ (w := w) (g := g) (row := none) (by repeat (first | (with_reducible first | exact HK.out | apply ac_.set_ | apply ad_ | apply af_ | apply ae_) | exact HK.out))) : w.heap.size ≤ gb101) : w0.heap.size ≤ gb101)); replace HK := Aside0.mk (ac_.trans (by repeat (first | (with_reducible first | exact HK.out | apply ac_.set_ | apply ad_ | apply af_ | apply ae_) | exact HK.out)) (ac_.of_below hb g none) (.inl rfl)); have NB0_101 := Aside0.mk ((by rw [hg]; exact Nat.ne_of_lt (IsS81.lt (show IsS81 w0 _ g s0_0 s0_1 s0_2 from by repeat (first | (with_reducible first | exact HI0.out | apply IsS81.alloc | apply IsS81.drewN | apply IsS81.drew | apply IsS81.set_1 | apply IsS81.set_2) | exact HI0.out))) : g ≠ gb101)); have NB101_0 := Aside0.mk ((by rw [hg]; exact Nat.ne_of_gt (IsS81.lt (show IsS81 w0 _ g s0_0 s0_1 s0_2 from by repeat (first | (with_reducible first | exact HI0.out | apply IsS81.alloc | apply IsS81.drewN | apply IsS81.drew | apply IsS81.set_1 | apply IsS81.set_2) | exact HI0.out))) : gb101 ≠ g)); replace HI0 := Aside0.mk (IsS81.below (by repeat (first | (with_reducible first | exact HI0.out | apply IsS81.alloc | apply IsS81.drewN | apply IsS81.drew | apply IsS81.set_1 | apply IsS81.set_2) | exact HI0.out)) hb); clear hb hbox hg) | ((with_reducible refine aS_ (N := 9) rfl ?_); refine Kd.R_lit Kd.string _ 9 ?hg (N := 9) ?hd (xs := ([(⟨#[102, 49]⟩ : ByteArray), (⟨#[102, 50]⟩ : ByteArray)] : List ByteArray)) (inner := [.string (⟨#[102, 49]⟩ : ByteArray), .string (⟨#[102, 50]⟩ : ByteArray)]) (ok := fun _ => True) (okp := fun _ => True) ?hr ?hp (fun _ hk => hk) trivial (Below.refl _ _) (Nat.le_refl _) (by simp) ?_; (case hd => rfl); (case hg => rfl); (case hr => (go_simp; try rfl)); (case hp => exact (Reps.one (show Kd.M Kd.string _ _ _ (⟨#[102, 49]⟩ : ByteArray) [.string (⟨#[102, 49]⟩ : ByteArray)] from rfl) (Reps.one (show Kd.M Kd.string _ _ _ (⟨#[102, 50]⟩ : ByteArray) [.string (⟨#[102, 50]⟩ : ByteArray)] from rfl) (Reps.none _ _)))); intro v103 w10 ho11 hb hg_ hnew_; clear hg_ hnew_; (first | rw [← Ny102.out] at ho11 | (simp only [Int.reduceToNat] at ho11; rw [← Ny102.out] at ho11)); have HO104 := Aside0.mk (Kd.bw_ ho11 (aZ_ (w := w) (g := g) (row := none) (by repeat (first | (with_reducible first | exact HK.out | apply ac_.set_ | apply ad_ | apply af_ | apply ae_ | refine ag_ ?_ GW101.out _) | exact HK.out)))); replace BK101 := Aside0.mk (az_ (kz BK101.out) hb); replace HK := Aside0.mk (ac_.trans (by repeat (first | (with_reducible first | exact HK.out | apply ac_.set_ | apply ad_ | apply af_ | apply ae_ | refine ag_ ?_ GW101.out _) | exact HK.out)) (ac_.of_below hb g none) (.inl rfl)); replace HB := Aside0.mk (ah_ (by repeat (first | (with_reducible first | exact HB.out | apply bA_ | apply bN_ | apply bD_ | refine ab_ ?_ (IsS81.ge HI0.out) | refine ab_ ?_ GE101.out) | exact HB.out)) hb); replace HI0 := Aside0.mk (IsS81.below (by repeat (first | (with_reducible first | exact HI0.out | apply IsS81.alloc | apply IsS81.drewN | apply IsS81.drew | apply IsS81.set_1 | apply IsS81.set_2 | refine IsS81.far ?_ NB0_101.out _) | exact HI0.out)) hb); clear hb ho11; obtain ⟨Ao12, co12, eo12⟩ := Kd.bL_ HO104.out; subst eo12) | ((with_reducible refine al_ (f := 84) rfl ?_); refine bf_ (some 10) rfl rfl Tryd.func84 (by kernel_rfl) rfl #[.pointer (some ⟨g, 0, none⟩), .slice Ao12 y102.length co12] rfl (by first | rfl | (simp only [lma_, lmc_, lmn_]; first | done | rfl)) ?_; (with_reducible refine (aR_.calls g s0_0 s0_1 s0_2 _ _ y102 t105 t106 t107 w0 _ ?side1 ?side2 ?side3 ?side4 ?side5 A3.out).mono ?_); (case side1 => repeat (first | (with_reducible first | exact HI0.out | apply IsS81.alloc | apply IsS81.drewN | apply IsS81.drew | apply IsS81.set_1 | apply IsS81.set_2 | refine IsS81.far ?_ NB0_101.out _) | exact HI0.out)); (case side2 => repeat (first | (with_reducible first | exact HB.out | apply bA_ | apply bN_ | apply bD_ | refine ab_ ?_ (IsS81.ge HI0.out) | refine ab_ ?_ GE101.out) | exact HB.out)); (case side3 => exact cz (Kd.aE_ HO104.out).2.2); (case side4 => exact (Kd.aE_ HO104.out).2.1); (case side5 => exact far_slice (IsS81.own_ne HI0.out HO104.out (by decide))); rintro e w13 ⟨rfl, hi, hb, hk⟩; refine ⟨_, rfl, ?_⟩; replace BK101 := Aside0.mk (ac_.blk hk (g' := gb101) (o := .cells #[.string (⟨#[]⟩ : ByteArray), .string (⟨#[]⟩ : ByteArray), .int .i64 0, .string (⟨#[]⟩ : ByteArray), .int .i64 0, .int .i64 0, .int .i64 0, .int .i64 0, .slice none 0 0] 97 (0, 0)) (kz BK101.out) NB101_0.out (by simp)); replace HO104 := Aside0.mk (Kd.aG_ (Kd.cw_ (IsS81.apart (show IsS81 w0 _ g s0_0 s0_1 s0_2 from by repeat (first | (with_reducible first | exact HI0.out | apply IsS81.alloc | apply IsS81.drewN | apply IsS81.drew | apply IsS81.set_1 | apply IsS81.set_2 | refine IsS81.far ?_ NB0_101.out _) | exact HI0.out)) (rz HO104.out) (by decide)) hk (fun _ h => h.2)) (fun _ h => h.1)); replace HK := Aside0.mk (ac_.trans (by repeat (first | (with_reducible first | exact HK.out | apply ac_.set_ | apply ad_ | apply af_ | apply ae_ | refine ag_ ?_ GW101.out _) | exact HK.out)) hk (.inl rfl)); replace HB := Aside0.mk (hb); replace HI0 := Aside0.mk (hi); (try clear hb)) | ((with_reducible refine al_ (f := 65) rfl ?_); refine bf_ (some 12) rfl rfl Tryd.func65 (by kernel_rfl) rfl #[.pointer (some ⟨g, 0, none⟩), .int .i64 20] rfl (by first | rfl | (simp only [lma_, lmc_, lmn_]; first | done | rfl)) ?_; (with_reducible refine (aj_.calls g s0_0 t106 t107 20 t108 t109 t110 w0 _ ?side1 ?side2 A4.out).mono ?_); (case side1 => repeat (first | (with_reducible first | exact HI0.out | apply IsS81.alloc | apply IsS81.drewN | apply IsS81.drew | apply IsS81.set_1 | apply IsS81.set_2 | refine IsS81.far ?_ NB0_101.out _) | exact HI0.out)); (case side2 => repeat (first | (with_reducible first | exact HB.out | apply bA_ | apply bN_ | apply bD_ | refine ab_ ?_ (IsS81.ge HI0.out) | refine ab_ ?_ GE101.out) | exact HB.out)); rintro e w14 ⟨rfl, hi, hb, hk⟩; refine ⟨_, rfl, ?_⟩; replace BK101 := Aside0.mk (ac_.blk hk (g' := gb101) (o := .cells #[.string (⟨#[]⟩ : ByteArray), .string (⟨#[]⟩ : ByteArray), .int .i64 0, .string (⟨#[]⟩ : ByteArray), .int .i64 0, .int .i64 0, .int .i64 0, .int .i64 0, .slice none 0 0] 97 (0, 0)) (kz BK101.out) NB101_0.out (by simp)); replace HO104 := Aside0.mk (Kd.aG_ (Kd.cw_ (IsS81.apart (show IsS81 w0 _ g s0_0 t106 t107 from by repeat (first | (with_reducible first | exact HI0.out | apply IsS81.alloc | apply IsS81.drewN | apply IsS81.drew | apply IsS81.set_1 | apply IsS81.set_2 | refine IsS81.far ?_ NB0_101.out _) | exact HI0.out)) (rz HO104.out) (by decide)) hk (fun _ h => h.2)) (fun _ h => h.1)); replace HK := Aside0.mk (ac_.trans (by repeat (first | (with_reducible first | exact HK.out | apply ac_.set_ | apply ad_ | apply af_ | apply ae_ | refine ag_ ?_ GW101.out _) | exact HK.out)) hk (.inl rfl)); replace HB := Aside0.mk (hb); replace HI0 := Aside0.mk (hi); (try clear hb)) | ((with_reducible refine aS_ (N := 5) rfl ?_); refine bB_ ?hg (N := 5) ?hd (cs := #[.string (⟨#[]⟩ : ByteArray), .string (⟨#[]⟩ : ByteArray), .int .i64 0, .string (⟨#[]⟩ : ByteArray), .int .i64 0, .int .i64 0, .int .i64 0, .int .i64 0, .slice none 0 0]) (t := 97) ?hr ?_; (case hd => rfl); (case hg => rfl); (case hr => (go_simp; try rfl)); intro gb111 hg w15 hbox hb; replace HO104 := Aside0.mk (Kd.bI_ (rz HO104.out) hb); replace HB := Aside0.mk (ah_ (by repeat (first | (with_reducible first | exact HB.out | apply bA_ | apply bN_ | apply bD_ | refine ab_ ?_ (IsS81.ge HI0.out) | refine ab_ ?_ GE101.out) | exact HB.out)) hb); have BK111 := Aside0.mk (hbox); have GW111 := Aside0.mk ((by rw [hg]; exact (aZ_ (w := w) (g := g) (row := none) (by repeat (first | (with_reducible first | exact HK.out | apply ac_.set_ | apply ad_ | apply af_ | apply ae_ | refine ag_ ?_ GW101.out _) | exact HK.out))) : w.heap.size ≤ gb111)); have GE111 := Aside0.mk ((Nat.le_trans HW0.out (by rw [hg]; exact (aZ_ (w := w) (g := g) (row := none) (by repeat (first | (with_reducible first | exact HK.out | apply ac_.set_ | apply ad_ | apply af_ | apply ae_ | refine ag_ ?_ GW101.out _) | exact HK.out))) : w.heap.size ≤ gb111) : w0.heap.size ≤ gb111)); replace HK := Aside0.mk (ac_.trans (by repeat (first | (with_reducible first | exact HK.out | apply ac_.set_ | apply ad_ | apply af_ | apply ae_ | refine ag_ ?_ GW101.out _) | exact HK.out)) (ac_.of_below hb g none) (.inl rfl)); have NB101_111 := Aside0.mk ((by rw [hg]; exact Nat.ne_of_lt (bX_ (kz BK101.out)) : gb101 ≠ gb111)); have NB111_101 := Aside0.mk ((by rw [hg]; exact Nat.ne_of_gt (bX_ (kz BK101.out)) : gb111 ≠ gb101)); replace BK101 := Aside0.mk (az_ (kz BK101.out) hb); have NB0_111 := Aside0.mk ((by rw [hg]; exact Nat.ne_of_lt (IsS81.lt (show IsS81 w0 _ g s0_0 t109 t110 from by repeat (first | (with_reducible first | exact HI0.out | apply IsS81.alloc | apply IsS81.drewN | apply IsS81.drew | apply IsS81.set_1 | apply IsS81.set_2 | refine IsS81.far ?_ NB0_101.out _) | exact HI0.out))) : g ≠ gb111)); have NB111_0 := Aside0.mk ((by rw [hg]; exact Nat.ne_of_gt (IsS81.lt (show IsS81 w0 _ g s0_0 t109 t110 from by repeat (first | (with_reducible first | exact HI0.out | apply IsS81.alloc | apply IsS81.drewN | apply IsS81.drew | apply IsS81.set_1 | apply IsS81.set_2 | refine IsS81.far ?_ NB0_101.out _) | exact HI0.out))) : gb111 ≠ g)); replace HI0 := Aside0.mk (IsS81.below (by repeat (first | (with_reducible first | exact HI0.out | apply IsS81.alloc | apply IsS81.drewN | apply IsS81.drew | apply IsS81.set_1 | apply IsS81.set_2 | refine IsS81.far ?_ NB0_101.out _) | exact HI0.out)) hb); clear hb hbox hg; have hnb16 := NB111_101.out; have hnc16 := NB101_111.out; have hnb17 := NB111_0.out; have hnc17 := NB0_111.out; obtain ⟨hcz18_0, hcz18_1, hcz18_2, hcz18_3, hcz18_4, hcz18_5, hcz18_6, hcz18_7, hcz18_8⟩ := cz9_ BK111.out; obtain ⟨hfz18_0, hfz18_1, hfz18_2, hfz18_3, hfz18_4, hfz18_5, hfz18_6, hfz18_7, hfz18_8⟩ := fz9_ BK111.out) | ((with_reducible refine al_ (f := 97) rfl ?_); refine bf_ (some 15) rfl rfl Tryd.func97 (by kernel_rfl) rfl #[.pointer (some ⟨g, 0, none⟩)] rfl (by first | rfl | (simp only [lma_, lmc_, lmn_]; first | done | rfl)) ?_; (with_reducible refine (bh_.calls g s0_0 t109 t110 t112 t113 t114 t115 t116 w0 _ ?side1 ?side2 A5.out).mono ?_); (case side1 => repeat (first | (with_reducible first | exact HI0.out | apply IsS81.alloc | apply IsS81.drewN | apply IsS81.drew | apply IsS81.set_1 | apply IsS81.set_2 | refine IsS81.far ?_ NB0_101.out _ | refine IsS81.far ?_ NB0_111.out _) | exact HI0.out)); (case side2 => repeat (first | (with_reducible first | exact HB.out | apply bA_ | apply bN_ | apply bD_ | refine ab_ ?_ (IsS81.ge HI0.out) | refine ab_ ?_ GE101.out | refine ab_ ?_ GE111.out) | exact HB.out)); rintro e w19 ⟨rfl, hi, hb, hk⟩; refine ⟨_, rfl, ?_⟩; replace BK101 := Aside0.mk (ac_.blk hk (g' := gb101) (o := .cells #[.string (⟨#[]⟩ : ByteArray), .string (⟨#[]⟩ : ByteArray), .int .i64 0, .string (⟨#[]⟩ : ByteArray), .int .i64 0, .int .i64 0, .int .i64 0, .int .i64 0, .slice none 0 0] 97 (0, 0)) (by exact kf (kf (kf (kf (kf (kf (kf (kf (kf (kz BK101.out) NB101_111.out) NB101_111.out) NB101_111.out) NB101_111.out) NB101_111.out) NB101_111.out) NB101_111.out) NB101_111.out) NB101_111.out) NB101_0.out (by simp)); replace HO104 := Aside0.mk (Kd.aG_ (Kd.cw_ (IsS81.apart (show IsS81 w0 _ g s0_0 t109 t110 from by repeat (first | (with_reducible first | exact HI0.out | apply IsS81.alloc | apply IsS81.drewN | apply IsS81.drew | apply IsS81.set_1 | apply IsS81.set_2 | refine IsS81.far ?_ NB0_101.out _ | refine IsS81.far ?_ NB0_111.out _) | exact HI0.out)) (rz (Kd.aG_ (Kd.R_far (p := ⟨gb111, 8, none⟩) (Kd.R_far (p := ⟨gb111, 7, none⟩) (Kd.R_far (p := ⟨gb111, 6, none⟩) (Kd.R_far (p := ⟨gb111, 5, none⟩) (Kd.R_far (p := ⟨gb111, 4, none⟩) (Kd.R_far (p := ⟨gb111, 3, none⟩) (Kd.R_far (p := ⟨gb111, 2, none⟩) (Kd.R_far (p := ⟨gb111, 1, none⟩) (Kd.R_far (p := ⟨gb111, 0, none⟩) (Kd.bY_ HO104.out BK111.out (by decide)) (fun _ hk => hk.2) (.string a1)) (fun _ hk => hk.2) (.string t105)) (fun _ hk => hk.2) (.int .i64 t108)) (fun _ hk => hk.2) (.string (⟨#[]⟩ : ByteArray))) (fun _ hk => hk.2) (.int .i64 0)) (fun _ hk => hk.2) (.int .i64 0)) (fun _ hk => hk.2) (.int .i64 0)) (fun _ hk => hk.2) (.int .i64 0)) (fun _ hk => hk.2) (.slice none 0 0)) (fun _ h_ => h_.1))) (by decide)) hk (fun _ h => h.2)) (fun _ h => h.1)); replace BK111 := Aside0.mk (ac_.blk hk (g' := gb111) (o := .cells #[.string a1, .string t105, .int .i64 t108, .string (⟨#[]⟩ : ByteArray), .int .i64 0, .int .i64 0, .int .i64 0, .int .i64 0, .slice none 0 0] 97 (0, 0)) (by exact kj9_8 (kj9_7 (kj9_6 (kj9_5 (kj9_4 (kj9_3 (kj9_2 (kj9_1 (kj9_0 (kz BK111.out)))))))))) NB111_0.out (by simp)); replace HK := Aside0.mk (ac_.trans (by repeat (first | (with_reducible first | exact HK.out | apply ac_.set_ | apply ad_ | apply af_ | apply ae_ | refine ag_ ?_ GW101.out _ | refine ag_ ?_ GW111.out _) | exact HK.out)) hk (.inl rfl)); replace HB := Aside0.mk (hb); replace HI0 := Aside0.mk (hi); (try clear hb); obtain ⟨hcz20_0, hcz20_1, hcz20_2, hcz20_3, hcz20_4, hcz20_5, hcz20_6, hcz20_7, hcz20_8⟩ := cz9_ BK111.out; obtain ⟨hfz20_0, hfz20_1, hfz20_2, hfz20_3, hfz20_4, hfz20_5, hfz20_6, hfz20_7, hfz20_8⟩ := fz9_ BK111.out) | ((with_reducible refine al_ (f := 65) rfl ?_); refine bf_ (some 18) rfl rfl Tryd.func65 (by kernel_rfl) rfl #[.pointer (some ⟨g, 0, none⟩), .int .i64 900] rfl (by first | rfl | (simp only [lma_, lmc_, lmn_]; first | done | rfl)) ?_; (with_reducible refine (aj_.calls g s0_0 t115 t116 900 t117 t118 t119 w0 _ ?side1 ?side2 A6.out).mono ?_); (case side1 => repeat (first | (with_reducible first | exact HI0.out | apply IsS81.alloc | apply IsS81.drewN | apply IsS81.drew | apply IsS81.set_1 | apply IsS81.set_2 | refine IsS81.far ?_ NB0_101.out _ | refine IsS81.far ?_ NB0_111.out _) | exact HI0.out)); (case side2 => repeat (first | (with_reducible first | exact HB.out | apply bA_ | apply bN_ | apply bD_ | refine ab_ ?_ (IsS81.ge HI0.out) | refine ab_ ?_ GE101.out | refine ab_ ?_ GE111.out) | exact HB.out)); rintro e w21 ⟨rfl, hi, hb, hk⟩; refine ⟨_, rfl, ?_⟩; replace BK101 := Aside0.mk (ac_.blk hk (g' := gb101) (o := .cells #[.string (⟨#[]⟩ : ByteArray), .string (⟨#[]⟩ : ByteArray), .int .i64 0, .string (⟨#[]⟩ : ByteArray), .int .i64 0, .int .i64 0, .int .i64 0, .int .i64 0, .slice none 0 0] 97 (0, 0)) (by exact kf (kf (kf (kz BK101.out) NB101_111.out) NB101_111.out) NB101_111.out) NB101_0.out (by simp)); replace HO104 := Aside0.mk (Kd.aG_ (Kd.cw_ (IsS81.apart (show IsS81 w0 _ g s0_0 t115 t116 from by repeat (first | (with_reducible first | exact HI0.out | apply IsS81.alloc | apply IsS81.drewN | apply IsS81.drew | apply IsS81.set_1 | apply IsS81.set_2 | refine IsS81.far ?_ NB0_101.out _ | refine IsS81.far ?_ NB0_111.out _) | exact HI0.out)) (rz (Kd.aG_ (Kd.R_far (p := ⟨gb111, 5, none⟩) (Kd.R_far (p := ⟨gb111, 4, none⟩) (Kd.R_far (p := ⟨gb111, 3, none⟩) (Kd.bY_ HO104.out BK111.out (by decide)) (fun _ hk => hk.2) (.string t112)) (fun _ hk => hk.2) (.int .i64 t113)) (fun _ hk => hk.2) (.int .i64 t114)) (fun _ h_ => h_.1))) (by decide)) hk (fun _ h => h.2)) (fun _ h => h.1)); replace BK111 := Aside0.mk (ac_.blk hk (g' := gb111) (o := .cells #[.string a1, .string t105, .int .i64 t108, .string t112, .int .i64 t113, .int .i64 t114, .int .i64 0, .int .i64 0, .slice none 0 0] 97 (0, 0)) (by exact kj9_5 (kj9_4 (kj9_3 (kz BK111.out)))) NB111_0.out (by simp)); replace HK := Aside0.mk (ac_.trans (by repeat (first | (with_reducible first | exact HK.out | apply ac_.set_ | apply ad_ | apply af_ | apply ae_ | refine ag_ ?_ GW101.out _ | refine ag_ ?_ GW111.out _) | exact HK.out)) hk (.inl rfl)); replace HB := Aside0.mk (hb); replace HI0 := Aside0.mk (hi); (try clear hb); obtain ⟨hcz22_0, hcz22_1, hcz22_2, hcz22_3, hcz22_4, hcz22_5, hcz22_6, hcz22_7, hcz22_8⟩ := cz9_ BK111.out; obtain ⟨hfz22_0, hfz22_1, hfz22_2, hfz22_3, hfz22_4, hfz22_5, hfz22_6, hfz22_7, hfz22_8⟩ := fz9_ BK111.out) | ((with_reducible refine al_ (f := 65) rfl ?_); refine bf_ (some 22) rfl rfl Tryd.func65 (by kernel_rfl) rfl #[.pointer (some ⟨g, 0, none⟩), .int .i64 900] rfl (by first | rfl | (simp only [lma_, lmc_, lmn_]; first | done | rfl)) ?_; (with_reducible refine (aj_.calls g s0_0 t118 t119 900 t120 t121 t122 w0 _ ?side1 ?side2 A7.out).mono ?_); (case side1 => repeat (first | (with_reducible first | exact HI0.out | apply IsS81.alloc | apply IsS81.drewN | apply IsS81.drew | apply IsS81.set_1 | apply IsS81.set_2 | refine IsS81.far ?_ NB0_101.out _ | refine IsS81.far ?_ NB0_111.out _) | exact HI0.out)); (case side2 => repeat (first | (with_reducible first | exact HB.out | apply bA_ | apply bN_ | apply bD_ | refine ab_ ?_ (IsS81.ge HI0.out) | refine ab_ ?_ GE101.out | refine ab_ ?_ GE111.out) | exact HB.out)); rintro e w23 ⟨rfl, hi, hb, hk⟩; refine ⟨_, rfl, ?_⟩; replace BK101 := Aside0.mk (ac_.blk hk (g' := gb101) (o := .cells #[.string (⟨#[]⟩ : ByteArray), .string (⟨#[]⟩ : ByteArray), .int .i64 0, .string (⟨#[]⟩ : ByteArray), .int .i64 0, .int .i64 0, .int .i64 0, .int .i64 0, .slice none 0 0] 97 (0, 0)) (by exact kf (kz BK101.out) NB101_111.out) NB101_0.out (by simp)); replace HO104 := Aside0.mk (Kd.aG_ (Kd.cw_ (IsS81.apart (show IsS81 w0 _ g s0_0 t118 t119 from by repeat (first | (with_reducible first | exact HI0.out | apply IsS81.alloc | apply IsS81.drewN | apply IsS81.drew | apply IsS81.set_1 | apply IsS81.set_2 | refine IsS81.far ?_ NB0_101.out _ | refine IsS81.far ?_ NB0_111.out _) | exact HI0.out)) (rz (Kd.aG_ (Kd.R_far (p := ⟨gb111, 6, none⟩) (Kd.bY_ HO104.out BK111.out (by decide)) (fun _ hk => hk.2) (.int .i64 (wrap64 (100 + t117)))) (fun _ h_ => h_.1))) (by decide)) hk (fun _ h => h.2)) (fun _ h => h.1)); replace BK111 := Aside0.mk (ac_.blk hk (g' := gb111) (o := .cells #[.string a1, .string t105, .int .i64 t108, .string t112, .int .i64 t113, .int .i64 t114, .int .i64 (wrap64 (100 + t117)), .int .i64 0, .slice none 0 0] 97 (0, 0)) (by exact kj9_6 (kz BK111.out)) NB111_0.out (by simp)); replace HK := Aside0.mk (ac_.trans (by repeat (first | (with_reducible first | exact HK.out | apply ac_.set_ | apply ad_ | apply af_ | apply ae_ | refine ag_ ?_ GW101.out _ | refine ag_ ?_ GW111.out _) | exact HK.out)) hk (.inl rfl)); replace HB := Aside0.mk (hb); replace HI0 := Aside0.mk (hi); (try clear hb); obtain ⟨hcz24_0, hcz24_1, hcz24_2, hcz24_3, hcz24_4, hcz24_5, hcz24_6, hcz24_7, hcz24_8⟩ := cz9_ BK111.out; obtain ⟨hfz24_0, hfz24_1, hfz24_2, hfz24_3, hfz24_4, hfz24_5, hfz24_6, hfz24_7, hfz24_8⟩ := fz9_ BK111.out) | ((with_reducible refine al_ (f := 65) rfl ?_); refine bf_ (some 26) rfl rfl Tryd.func65 (by kernel_rfl) rfl #[.pointer (some ⟨g, 0, none⟩), .int .i64 4] rfl (by first | rfl | (simp only [lma_, lmc_, lmn_]; first | done | rfl)) ?_; (with_reducible refine (aj_.calls g s0_0 t121 t122 4 t123 t124 t125 w0 _ ?side1 ?side2 A8.out).mono ?_); (case side1 => repeat (first | (with_reducible first | exact HI0.out | apply IsS81.alloc | apply IsS81.drewN | apply IsS81.drew | apply IsS81.set_1 | apply IsS81.set_2 | refine IsS81.far ?_ NB0_101.out _ | refine IsS81.far ?_ NB0_111.out _) | exact HI0.out)); (case side2 => repeat (first | (with_reducible first | exact HB.out | apply bA_ | apply bN_ | apply bD_ | refine ab_ ?_ (IsS81.ge HI0.out) | refine ab_ ?_ GE101.out | refine ab_ ?_ GE111.out) | exact HB.out)); rintro e w25 ⟨rfl, hi, hb, hk⟩; refine ⟨_, rfl, ?_⟩; replace BK101 := Aside0.mk (ac_.blk hk (g' := gb101) (o := .cells #[.string (⟨#[]⟩ : ByteArray), .string (⟨#[]⟩ : ByteArray), .int .i64 0, .string (⟨#[]⟩ : ByteArray), .int .i64 0, .int .i64 0, .int .i64 0, .int .i64 0, .slice none 0 0] 97 (0, 0)) (by exact kf (kz BK101.out) NB101_111.out) NB101_0.out (by simp)); replace HO104 := Aside0.mk (Kd.aG_ (Kd.cw_ (IsS81.apart (show IsS81 w0 _ g s0_0 t121 t122 from by repeat (first | (with_reducible first | exact HI0.out | apply IsS81.alloc | apply IsS81.drewN | apply IsS81.drew | apply IsS81.set_1 | apply IsS81.set_2 | refine IsS81.far ?_ NB0_101.out _ | refine IsS81.far ?_ NB0_111.out _) | exact HI0.out)) (rz (Kd.aG_ (Kd.R_far (p := ⟨gb111, 7, none⟩) (Kd.bY_ HO104.out BK111.out (by decide)) (fun _ hk => hk.2) (.int .i64 (wrap64 (100 + t120)))) (fun _ h_ => h_.1))) (by decide)) hk (fun _ h => h.2)) (fun _ h => h.1)); replace BK111 := Aside0.mk (ac_.blk hk (g' := gb111) (o := .cells #[.string a1, .string t105, .int .i64 t108, .string t112, .int .i64 t113, .int .i64 t114, .int .i64 (wrap64 (100 + t117)), .int .i64 (wrap64 (100 + t120)), .slice none 0 0] 97 (0, 0)) (by exact kj9_7 (kz BK111.out)) NB111_0.out (by simp)); replace HK := Aside0.mk (ac_.trans (by repeat (first | (with_reducible first | exact HK.out | apply ac_.set_ | apply ad_ | apply af_ | apply ae_ | refine ag_ ?_ GW101.out _ | refine ag_ ?_ GW111.out _) | exact HK.out)) hk (.inl rfl)); replace HB := Aside0.mk (hb); replace HI0 := Aside0.mk (hi); (try clear hb)))
 (try simp only [Act.put, lsa_, ls0_, ls1_])
 go_loopg [6] k (fun kq v6 w' => ∃ (x6_1 : Int) (x1001_1 : Int) (x1002_1 : Int) (x112008_1 : List (S107)) (u112008 : Value), v6 = .int .i64 x6_1 ∧ Aside0 (aH_.l0 kq x6_1 s0_0 x1001_1 x1002_1 a1 t105 t108 t112 t113 t114 (wrap64 (100 + t117)) (wrap64 (100 + t120)) x112008_1 = some (r1, r2, r3, r4, r5, r6, r7, r8, r9, r10, r11)) ∧ Aside0 (kq ≤ k) ∧ Aside0 (Kd.R k107 107 w' w.heap.size (fun _ => True) u112008 x112008_1) ∧ Aside0 (w'.heap[gb101]? = some (.cells #[.string (⟨#[]⟩ : ByteArray), .string (⟨#[]⟩ : ByteArray), .int .i64 0, .string (⟨#[]⟩ : ByteArray), .int .i64 0, .int .i64 0, .int .i64 0, .int .i64 0, (.slice none 0 0)] 97 (0, 0))) ∧ Aside0 (w'.heap[gb111]? = some (.cells #[.string a1, .string t105, .int .i64 t108, .string t112, .int .i64 t113, .int .i64 t114, .int .i64 (wrap64 (100 + t117)), .int .i64 (wrap64 (100 + t120)), u112008] 97 (0, 0))) ∧ Aside0 (IsS81 w0 w' g s0_0 x1001_1 x1002_1) ∧ Aside0 (ac_ w w' g none) ∧ Aside0 (Below w0.heap.size w0 w'))
 case atStart => exact ⟨(t123), (t124), (t125), (([] : List (S107))), (.slice none 0 0), (by first | rfl | (simp; done) | (simp [*]; done)), H', ⟨Nat.le_refl _⟩, ⟨by first | exact Kd.R_nil _ _ _ _ _ | exact Kd.N_nil _ _ _ _ _ | exact Kd.V_nil _ _ _ _ _ | exact Kd.Q_nil _ _ _ _ _ | exact Kd.S_nil _ _ _ _ _⟩, ⟨by (with_reducible repeat (first | refine bj_ ?_ _ | refine aX_ ?_ | refine aU_ ?_ _)); exact BK101.out⟩, ⟨by (with_reducible repeat (first | refine bj_ ?_ _ | refine aX_ ?_ | refine aU_ ?_ _)); exact BK111.out⟩, ⟨by repeat (first | (with_reducible first | exact HI0.out | apply IsS81.alloc | apply IsS81.drewN | apply IsS81.drew | apply IsS81.set_1 | apply IsS81.set_2 | refine IsS81.far ?_ NB0_101.out _ | refine IsS81.far ?_ NB0_111.out _) | exact HI0.out)⟩, ⟨by repeat (first | (with_reducible first | exact HK.out | apply ac_.set_ | apply ad_ | apply af_ | apply ae_ | refine ag_ ?_ GW101.out _ | refine ag_ ?_ GW111.out _) | exact HK.out)⟩, ⟨by repeat (first | (with_reducible first | exact HB.out | apply bA_ | apply bN_ | apply bD_ | refine ab_ ?_ (IsS81.ge HI0.out) | refine ab_ ?_ GE101.out | refine ab_ ?_ GE111.out) | exact HB.out)⟩⟩
 case round =>
  clear H'
  obtain ⟨x6_1, x1001_1, x1002_1, x112008_1, u112008, rfl, HA, HK1, HO_112008, BK101, BK111, HI0, HK, HB⟩ := hrel
  cases gk with
  | zero => exact absurd HA.out (by simp [aH_.l0])
  | succ k1 =>
   have H := HA.out
   clear HA
   simp only [aH_.l0] at H
   by_cases c26 : x6_1 > 0
   rotate_left
   ·rw [if_neg c26] at H
    have c26b0 : decide (0 < x6_1) = false := decide_eq_false c26
    clear c26
    simp only [Option.some.injEq, Prod.mk.injEq] at H
    obtain ⟨rfl, rfl, rfl, rfl, rfl, rfl, rfl, rfl, rfl, rfl, rfl⟩ := H
    have hnb34 := NB111_101.out
    have hnc34 := NB101_111.out
    have hnb35 := NB111_0.out
    have hnc35 := NB0_111.out
    obtain ⟨hcz36_0, hcz36_1, hcz36_2, hcz36_3, hcz36_4, hcz36_5, hcz36_6, hcz36_7, hcz36_8⟩ := cz9_ BK111.out
    obtain ⟨hfz36_0, hfz36_1, hfz36_2, hfz36_3, hfz36_4, hfz36_5, hfz36_6, hfz36_7, hfz36_8⟩ := fz9_ BK111.out
    have hnb37 := NB101_0.out
    have hnc37 := NB0_101.out
    obtain ⟨hcz38_0, hcz38_1, hcz38_2, hcz38_3, hcz38_4, hcz38_5, hcz38_6, hcz38_7, hcz38_8⟩ := cz9_ BK101.out
    obtain ⟨hfz38_0, hfz38_1, hfz38_2, hfz38_3, hfz38_4, hfz38_5, hfz38_6, hfz38_7, hfz38_8⟩ := fz9_ BK101.out
    obtain ⟨Ao39, co39, eo39⟩ := Kd.bL_ HO_112008.out
    subst eo39
    go_wp2
    refine bodyPost_ret (results_cell_row rfl _ _ gb101 97 #[.string a1, .string t105, .int .i64 t108, .string t112, .int .i64 t113, .int .i64 t114, .int .i64 (wrap64 (100 + t117)), .int .i64 (wrap64 (100 + t120)), .slice Ao39 x112008_1.length co39] (0, 0) _ rfl (by exact kj9_8 (kj9_7 (kj9_6 (kj9_5 (kj9_4 (kj9_3 (kj9_2 (kj9_1 (kj9_0 (kz BK101.out)))))))))) Tryd.underlying97 rfl (by kernel_rfl)) rfl ?_
    exact ⟨_, by first | rfl | (simp [*, aw_, av_] <;> rfl), rz (Kd.aG_ (Kd.R_far (p := ⟨gb101, 8, none⟩) (Kd.R_far (p := ⟨gb101, 7, none⟩) (Kd.R_far (p := ⟨gb101, 6, none⟩) (Kd.R_far (p := ⟨gb101, 5, none⟩) (Kd.R_far (p := ⟨gb101, 4, none⟩) (Kd.R_far (p := ⟨gb101, 3, none⟩) (Kd.R_far (p := ⟨gb101, 2, none⟩) (Kd.R_far (p := ⟨gb101, 1, none⟩) (Kd.R_far (p := ⟨gb101, 0, none⟩) (Kd.bY_ HO_112008.out BK101.out (by decide)) (fun _ hk => hk.2) (.string a1)) (fun _ hk => hk.2) (.string t105)) (fun _ hk => hk.2) (.int .i64 t108)) (fun _ hk => hk.2) (.string t112)) (fun _ hk => hk.2) (.int .i64 t113)) (fun _ hk => hk.2) (.int .i64 t114)) (fun _ hk => hk.2) (.int .i64 (wrap64 (100 + t117)))) (fun _ hk => hk.2) (.int .i64 (wrap64 (100 + t120)))) (fun _ hk => hk.2) (.slice Ao39 x112008_1.length co39)) (fun _ hk => trivial)), by repeat (first | (with_reducible first | exact HI0.out | apply IsS81.alloc | apply IsS81.drewN | apply IsS81.drew | apply IsS81.set_1 | apply IsS81.set_2 | refine IsS81.far ?_ NB0_101.out _ | refine IsS81.far ?_ NB0_111.out _) | exact HI0.out), by repeat (first | (with_reducible first | exact HB.out | apply bA_ | apply bN_ | apply bD_ | refine ab_ ?_ (IsS81.ge HI0.out) | refine ab_ ?_ GE101.out | refine ab_ ?_ GE111.out) | exact HB.out), by repeat (first | (with_reducible first | exact HK.out | apply ac_.set_ | apply ad_ | apply af_ | apply ae_ | refine ag_ ?_ GW101.out _ | refine ag_ ?_ GW111.out _) | exact HK.out)⟩
   rw [if_pos c26] at H
   have c26b0 : decide (0 < x6_1) = true := decide_eq_true c26
   clear c26
   replace H := Option.bind_eq_some_iff.mp H
   obtain ⟨⟨t126, t127, t128, t129, t130, t131⟩, A270, H⟩ := H
   (try dsimp only at H)
   have A27 := Aside0.mk A270
   clear A270
   by_cases c28 : x112008_1.length < 4398046511104
   rotate_left
   ·rw [if_neg c28] at H
    exact absurd H (by simp)
   rw [if_pos c28] at H
   have LMc28 := Aside0.mk c28
   clear c28
   obtain ⟨y132, hy132⟩ : ∃ y_ : List (S107), y_ = (x112008_1 ++ [(⟨t126, t127, t128, t129⟩ : S107)]) := ⟨_, rfl⟩
   replace H : (aH_.l0 k1 (wrap64 (x6_1 - 1)) s0_0 t130 t131 a1 t105 t108 t112 t113 t114 (wrap64 (100 + t117)) (wrap64 (100 + t120)) y132) = some (r1, r2, r3, r4, r5, r6, r7, r8, r9, r10, r11) := by first | (rw [hy132]; with_reducible exact H) | (have H2_ := (Option.bind_some _ _).symm.trans H; rw [hy132]; with_reducible exact H2_) | (have H2_ := (Option.bind_some _ _).symm.trans H; with_reducible exact H2_) | with_reducible exact H | (rw [hy132]; exact H) | exact H
   have Ny132 := Aside0.mk hy132
   clear hy132
   have H' := Aside0.mk H
   clear H
   try go_wp2
   have n0_ := Aside0.mk (Kd.dd_ HO_112008.out)
   have n1_ := Aside0.mk (aX_ BK101.out)
   have n2_ := Aside0.mk (aX_ BK111.out)
   have n3_ := Aside0.mk (IsS81.drew HI0.out)
   have n4_ := Aside0.mk (af_ HK.out)
   have n5_ := Aside0.mk (bD_ HB.out)
   clear HO_112008
   clear BK101
   clear BK111
   clear HI0
   clear HK
   clear HB
   have HO_112008 := n0_
   have BK101 := n1_
   have BK111 := n2_
   have HI0 := n3_
   have HK := n4_
   have HB := n5_
   clear n0_ n1_ n2_ n3_ n4_ n5_
   refine cW_ (n := 12) (S := fun w' => w'.cell? ⟨gb111, 0, none⟩ = some (.string a1) ∧ w'.cell? ⟨gb111, 1, none⟩ = some (.string t105) ∧ w'.cell? ⟨gb111, 2, none⟩ = some (.int .i64 t108) ∧ w'.cell? ⟨gb111, 3, none⟩ = some (.string t112) ∧ w'.cell? ⟨gb111, 4, none⟩ = some (.int .i64 t113) ∧ w'.cell? ⟨gb111, 5, none⟩ = some (.int .i64 t114) ∧ w'.cell? ⟨gb111, 6, none⟩ = some (.int .i64 (wrap64 (100 + t117))) ∧ w'.cell? ⟨gb111, 7, none⟩ = some (.int .i64 (wrap64 (100 + t120))) ∧ w'.cell? ⟨gb111, 8, none⟩ = some (u112008)) (ds := [11]) #[f_,f_,f_,f_,f_,f_,f_,f_,f_,f_,f_,f_] (by kernel_rfl) rfl rfl ⟨(ar_ BK111.out 0).trans rfl, (ar_ BK111.out 1).trans rfl, (ar_ BK111.out 2).trans rfl, (ar_ BK111.out 3).trans rfl, (ar_ BK111.out 4).trans rfl, (ar_ BK111.out 5).trans rfl, (ar_ BK111.out 6).trans rfl, (ar_ BK111.out 7).trans rfl, (ar_ BK111.out 8).trans rfl⟩ (fun hHeld => ?_); refine ce_ aH_.tab8 aH_.bits8 (fun HT_ HW_ => ?_)
   generalize wr.drew = w29 at HO_112008 BK101 BK111 HI0 HK HB hHeld ⊢
   refine pu 0 31 #[t_,f_,f_,f_,f_,f_,f_,f_,f_,f_,f_,f_] HT_ ?_
   refine pu 2 33 #[t_,f_,t_,f_,f_,f_,f_,f_,f_,f_,f_,f_] HT_ ?_
   refine pu 3 34 #[t_,f_,t_,t_,f_,f_,f_,f_,f_,f_,f_,f_] HT_ ?_
   refine pu 5 36 #[t_,f_,t_,t_,f_,t_,f_,f_,f_,f_,f_,f_] HT_ ?_
   refine tk 1 32 #[t_,t_,t_,t_,f_,t_,f_,f_,f_,f_,f_,f_] HT_ HW_ hHeld ?_ (hv := by rintro w' ⟨s0, s1, s2, s3, s4, s5, s6, s7, s8⟩; go_simp; with_reducible rfl)
   refine tk 4 35 #[t_,t_,t_,t_,t_,t_,f_,f_,f_,f_,f_,f_] HT_ HW_ hHeld ?_ (hv := by rintro w' ⟨s0, s1, s2, s3, s4, s5, s6, s7, s8⟩; go_simp; with_reducible rfl)
   refine tk 6 37 #[t_,t_,t_,t_,t_,t_,t_,f_,f_,f_,f_,f_] HT_ HW_ hHeld ?_ (hv := by rintro w' ⟨s0, s1, s2, s3, s4, s5, s6, s7, s8⟩; go_simp; with_reducible rfl)
   refine one_ (i := 7) (N := some 38) #[t_,t_,t_,t_,t_,t_,t_,t_,f_,f_,f_,f_] rfl rfl (bZ_ HT_.out (by kernel_rfl)) (by decide) (fun K hK => ?_)
   (first | refine goes_ Tryd.func98 (by kernel_rfl) rfl #[.pointer (some ⟨g, 0, none⟩), .int .i64 (wrap64 (100 + t117)), .int .i64 (wrap64 (100 + t120))] (by rfl) rfl rfl (by first | rfl | (simp only [lma_, lmc_, lmn_]; first | done | rfl)) ?_ | refine RPW.cj_ Tryd.func98 (by kernel_rfl) rfl #[.pointer (some ⟨g, 0, none⟩), .int .i64 (wrap64 (100 + t117)), .int .i64 (wrap64 (100 + t120))] (by rfl) rfl rfl rfl (by first | rfl | (simp only [lma_, lmc_, lmn_]; first | done | rfl)) ?_ | refine RPW.ci_ Tryd.func98 (by kernel_rfl) rfl #[.pointer (some ⟨g, 0, none⟩), .int .i64 (wrap64 (100 + t117)), .int .i64 (wrap64 (100 + t120))] (by rfl) rfl rfl rfl (by first | rfl | (simp only [lma_, lmc_, lmn_]; first | done | rfl)) ?_)
   with_reducible refine (ct_.calls g s0_0 x1001_1 x1002_1 (wrap64 (100 + t117)) (wrap64 (100 + t120)) t126 t127 t128 t129 t130 t131 w0 _ ?side1 ?side2 A27.out).mono ?_
   (case side1 => repeat (first | (with_reducible first | exact HI0.out | apply IsS81.alloc | apply IsS81.drewN | apply IsS81.drew | apply IsS81.set_1 | apply IsS81.set_2 | refine IsS81.far ?_ NB0_101.out _ | refine IsS81.far ?_ NB0_111.out _) | exact HI0.out))
   (case side2 => repeat (first | (with_reducible first | exact HB.out | apply bA_ | apply bN_ | apply bD_ | refine ab_ ?_ (IsS81.ge HI0.out) | refine ab_ ?_ GE101.out | refine ab_ ?_ GE111.out) | exact HB.out))
   rintro e w30 ⟨rfl, hi, hb, hk⟩
   refine ⟨_, rfl, ?_⟩
   have n0_ := Aside0.mk (Kd.aG_ (Kd.cw_ (IsS81.apart (show IsS81 w0 _ g s0_0 x1001_1 x1002_1 from by repeat (first | (with_reducible first | exact HI0.out | apply IsS81.alloc | apply IsS81.drewN | apply IsS81.drew | apply IsS81.set_1 | apply IsS81.set_2 | refine IsS81.far ?_ NB0_101.out _ | refine IsS81.far ?_ NB0_111.out _) | exact HI0.out)) (rz HO_112008.out) (by decide)) hk (fun _ h => h.2)) (fun _ h => h.1))
   have n1_ := Aside0.mk (ac_.blk hk (g' := gb101) (o := .cells #[.string (⟨#[]⟩ : ByteArray), .string (⟨#[]⟩ : ByteArray), .int .i64 0, .string (⟨#[]⟩ : ByteArray), .int .i64 0, .int .i64 0, .int .i64 0, .int .i64 0, .slice none 0 0] 97 (0, 0)) (kz BK101.out) NB101_0.out (by simp))
   have n2_ := Aside0.mk (ac_.blk hk (g' := gb111) (o := .cells #[.string a1, .string t105, .int .i64 t108, .string t112, .int .i64 t113, .int .i64 t114, .int .i64 (wrap64 (100 + t117)), .int .i64 (wrap64 (100 + t120)), u112008] 97 (0, 0)) (kz BK111.out) NB111_0.out (by simp))
   have n3_ := Aside0.mk (ac_.trans (by repeat (first | (with_reducible first | exact HK.out | apply ac_.set_ | apply ad_ | apply af_ | apply ae_ | refine ag_ ?_ GW101.out _ | refine ag_ ?_ GW111.out _) | exact HK.out)) hk (.inl rfl))
   have n4_ := Aside0.mk (hb)
   have n5_ := Aside0.mk (hi)
   clear HO_112008
   clear BK101
   clear BK111
   clear HK
   clear HB
   clear HI0
   have HO_112008 := n0_
   have BK101 := n1_
   have BK111 := n2_
   have HK := n3_
   have HB := n4_
   have HI0 := n5_
   clear n0_ n1_ n2_ n3_ n4_ n5_
   (try clear hb)
   refine hK.out _ _ ⟨(ar_ BK111.out 0).trans rfl, (ar_ BK111.out 1).trans rfl, (ar_ BK111.out 2).trans rfl, (ar_ BK111.out 3).trans rfl, (ar_ BK111.out 4).trans rfl, (ar_ BK111.out 5).trans rfl, (ar_ BK111.out 6).trans rfl, (ar_ BK111.out 7).trans rfl, (ar_ BK111.out 8).trans rfl⟩ (fun hHeld => ?_)
   clear hK K
   refine norm_ (a' := ?_) ?_ ?_
   rotate_left
   ·show Act.put _ (some 38) _ = _
    simp only [Act.put, lsa_, ls0_, ls1_, i64_w, i32_w]
    rfl
   refine one_ (i := 8) (N := some 39) #[t_,t_,t_,t_,t_,t_,t_,t_,t_,f_,f_,f_] rfl rfl (bZ_ HT_.out (by kernel_rfl)) (by decide) (fun K hK => ?_)
   refine value_ (w1 := ?_) (v := ?_) (by rfl) rfl ?_ ?_
   rotate_left 2
   ·go_simp
    constructor
    ·rfl
    ·rfl
   refine hK.out _ _ ⟨(ar_ (aU_ BK111.out _) 0).trans rfl, (ar_ (aU_ BK111.out _) 1).trans rfl, (ar_ (aU_ BK111.out _) 2).trans rfl, (ar_ (aU_ BK111.out _) 3).trans rfl, (ar_ (aU_ BK111.out _) 4).trans rfl, (ar_ (aU_ BK111.out _) 5).trans rfl, (ar_ (aU_ BK111.out _) 6).trans rfl, (ar_ (aU_ BK111.out _) 7).trans rfl, (ar_ (aU_ BK111.out _) 8).trans rfl⟩ (fun hHeld => ?_)
   clear hK K
   refine norm_ (a' := ?_) ?_ ?_
   rotate_left
   ·show Act.put _ (some 39) _ = _
    simp only [Act.put, lsa_, ls0_, ls1_, i64_w, i32_w]
    rfl
   refine one_ (i := 9) (N := some 40) #[t_,t_,t_,t_,t_,t_,t_,t_,t_,t_,f_,f_] rfl rfl (bZ_ HT_.out (by kernel_rfl)) (by decide) (fun K hK => ?_)
   refine Kd.R_append_step k107 w.heap.size (by rfl) (.tmp 32) (.tmp 39) 95 107 (.agg #[(.int .i64 0), (.int .i64 0), (.int .i64 0), (.int .i64 0)]) 32 rfl Tryd.underlying95 info107 rfl (by decide) (by omega) u112008 x112008_1 (⟨t126, t127, t128, t129⟩ : S107) [.int .i64 t126, .int .i64 t127, .int .i64 t128, .int .i64 t129] (fun _ => True) (fun _ => False) rfl rfl ?aP (fun _ hk => hk.elim) ?aF ?aO (Below.refl _ _) ?aS ?aL ?_
   (case aP => exact k107_mkM _ _ _ (⟨t126, t127, t128, t129⟩ : S107))
   (case aF => exact (fun _ _ => trivial))
   (case aO => exact (rz HO_112008.out))
   (case aS => exact (aZ_ (w := w) (g := g) (row := none) (by repeat (first | (with_reducible first | exact HK.out | apply ac_.set_ | apply ad_ | apply af_ | apply ae_ | refine ag_ ?_ GW101.out _ | refine ag_ ?_ GW111.out _) | exact HK.out))))
   (case aL => have := LMc28.out; omega)
   intro v133 w31 ho hb hg hat
   rw [← Ny132.out] at ho
   have n0_ := Aside0.mk (bH_ (g := gb101) (o := .cells #[.string (⟨#[]⟩ : ByteArray), .string (⟨#[]⟩ : ByteArray), .int .i64 0, .string (⟨#[]⟩ : ByteArray), .int .i64 0, .int .i64 0, .int .i64 0, .int .i64 0, .slice none 0 0] 97 (0, 0)) (kz BK101.out) hg (Kd.R_ne HO_112008.out BK101.out (by decide)))
   have n1_ := Aside0.mk (bH_ (g := gb111) (o := .cells #[.string a1, .string t105, .int .i64 t108, .string t112, .int .i64 t113, .int .i64 t114, .int .i64 (wrap64 (100 + t117)), .int .i64 (wrap64 (100 + t120)), u112008] 97 (0, 0)) (kz BK111.out) hg (Kd.R_ne HO_112008.out BK111.out (by decide)))
   have n2_ := Aside0.mk (IsS81.grown (by repeat (first | (with_reducible first | exact HI0.out | apply IsS81.alloc | apply IsS81.drewN | apply IsS81.drew | apply IsS81.set_1 | apply IsS81.set_2 | refine IsS81.far ?_ NB0_101.out _ | refine IsS81.far ?_ NB0_111.out _) | exact HI0.out)) hg (IsS81.own_ne HI0.out HO_112008.out (by decide)))
   have n3_ := Aside0.mk (below_weaken (by repeat (first | (with_reducible first | exact HB.out | apply bA_ | apply bN_ | apply bD_ | refine ab_ ?_ (IsS81.ge HI0.out) | refine ab_ ?_ GE101.out | refine ab_ ?_ GE111.out) | exact HB.out)) HL.out hb)
   have n4_ := Aside0.mk (ac_.trans (by repeat (first | (with_reducible first | exact HK.out | apply ac_.set_ | apply ad_ | apply af_ | apply ae_ | refine ag_ ?_ GW101.out _ | refine ag_ ?_ GW111.out _) | exact HK.out)) (ac_.of_grown hg g) (Kd.R_base2 HO_112008.out))
   have n5_ := Aside0.mk (ho)
   clear BK101
   clear BK111
   clear HI0
   clear HB
   clear HK
   clear HO_112008
   have BK101 := n0_
   have BK111 := n1_
   have HI0 := n2_
   have HB := n3_
   have HK := n4_
   have HO134 := n5_
   clear n0_ n1_ n2_ n3_ n4_ n5_
   clear ho hb hg hat
   obtain ⟨Ao32, co32, eo32⟩ := Kd.bL_ HO134.out
   (first | subst eo32 | (injection eo32 with f1_ f2_ f3_; have f4_ := f1_.symm; have f5_ := f3_.symm; clear f1_ f2_ f3_; subst f4_; subst f5_))
   refine hK.out _ _ ⟨(ar_ BK111.out 0).trans rfl, (ar_ BK111.out 1).trans rfl, (ar_ BK111.out 2).trans rfl, (ar_ BK111.out 3).trans rfl, (ar_ BK111.out 4).trans rfl, (ar_ BK111.out 5).trans rfl, (ar_ BK111.out 6).trans rfl, (ar_ BK111.out 7).trans rfl, (ar_ BK111.out 8).trans rfl⟩ (fun hHeld => ?_)
   clear hK K
   refine norm_ (a' := ?_) ?_ ?_
   rotate_left
   ·show Act.put _ (some 40) _ = _
    simp only [Act.put, lsa_, ls0_, ls1_, i64_w, i32_w]
    rfl
   refine pu 10 41 #[t_,t_,t_,t_,t_,t_,t_,t_,t_,t_,t_,f_] HT_ ?_
   refine last_ (i := 11) (N := none) #[t_,t_,t_,t_,t_,t_,t_,t_,t_,t_,t_,t_] rfl rfl (bZ_ HT_.out (by kernel_rfl)) (by decide) (fun K hK => ?_)
   have hs33 : w31.cell? ⟨gb111, 8, none⟩ = some (u112008) := (ar_ BK111.out 8).trans rfl
   have hfs33 := ba_ BK111.out 8
   have hns33_0 := NB101_111.out
   have hms33_0 := NB111_101.out
   refine skip_ (w1 := ?_) (by rfl) rfl ?_ ?_
   rotate_left
   ·go_simp
    rfl
   refine hK.out _ _ ?_
   clear hK K
   refine done_ (cO_ HT_.out (by kernel_rfl)) ?_
   try go_wp2
   go_roundg k1
   case measure => have := HK1.out; omega
   case rel => exact ⟨(wrap64 (x6_1 - 1)), (t130), (t131), (y132), (.slice Ao32 y132.length co32), (by first | rfl | (simp; done) | (simp [*]; done)), H', ⟨by have := HK1.out; omega⟩, ⟨rz (Kd.aG_ (Kd.R_far (p := ⟨gb111, 8, none⟩) (Kd.bY_ HO134.out BK111.out (by decide)) (fun _ hk => hk.2) (.slice Ao32 y132.length co32)) (fun _ hk => trivial))⟩, ⟨by exact kf (kz BK101.out) NB101_111.out⟩, ⟨by exact kj9_8 (kz BK111.out)⟩, ⟨by repeat (first | (with_reducible first | exact HI0.out | apply IsS81.alloc | apply IsS81.drewN | apply IsS81.drew | apply IsS81.set_1 | apply IsS81.set_2 | refine IsS81.far ?_ NB0_101.out _ | refine IsS81.far ?_ NB0_111.out _) | exact HI0.out)⟩, ⟨by repeat (first | (with_reducible first | exact HK.out | apply ac_.set_ | apply ad_ | apply af_ | apply ae_ | refine ag_ ?_ GW101.out _ | refine ag_ ?_ GW111.out _) | exact HK.out)⟩, ⟨by repeat (first | (with_reducible first | exact HB.out | apply bA_ | apply bN_ | apply bD_ | refine ab_ ?_ (IsS81.ge HI0.out) | refine ab_ ?_ GE101.out | refine ab_ ?_ GE111.out) | exact HB.out)⟩⟩
mutual
def au_.l0 : Nat → Int → List Int → Int → Option (ByteArray)
 | 0, _, _, _ => none
 | k + 1, x0, x3, x4 => if x4 = 0 then (if x0 < 0 then (if x3.length < 140737488355328 then (au_.j1 k (x3 ++ [45])) else (none)) else (au_.j1 k x3)) else (if (Int.tmod x4 10) < 0 then (if x3.length < 140737488355328 then (au_.l0 k x0 (x3 ++ [(wrap64 (48 + (wrap64 (-(Int.tmod x4 10))))) % 256]) (wrap64 (Int.tdiv x4 10))) else (none)) else (if x3.length < 140737488355328 then (au_.l0 k x0 (x3 ++ [(wrap64 (48 + (Int.tmod x4 10))) % 256]) (wrap64 (Int.tdiv x4 10))) else (none)))
def au_.j1 : Nat → List Int → Option (ByteArray)
 | 0, _ => none
 | k + 1, x3 => au_.l1 k x3 (([] : List Int)) (wrap64 ((x3.length : Int) - 1))
def au_.l1 : Nat → List Int → List Int → Int → Option (ByteArray)
 | 0, _, _, _ => none
 | k + 1, x3, x6, x7 => if x7 ≥ 0 then (if 0 ≤ x7 then (if x7 < (x3.length : Int) then (if x6.length < 140737488355328 then (au_.l1 k x3 (x6 ++ [rd x3 x7]) (wrap64 (x7 - 1))) else (none)) else (none)) else (none)) else (some (strOfNums x6))
end
def au_.f (k : Nat) (a0 : Int) : Option (ByteArray) := if a0 = 0 then (some (⟨#[48]⟩ : ByteArray)) else (au_.l0 k a0 (([] : List Int)) a0)
set_option maxHeartbeats 8000000 in
set_option maxRecDepth 100000 in
theorem au_.calls (k : Nat) (a0 : Int) (r : ByteArray) (w : World) (h : au_.f k a0 = some r) :
  Calls Tryd.prog 68 #[.int .i64 a0] w fun e w' => e = .returned (.string r) ∧ Below w.heap.size w w' := by
 have HB := Aside0.mk (Below.refl w.heap.size w)
 have H : (if a0 = 0 then (some (⟨#[48]⟩ : ByteArray)) else (au_.l0 k a0 (([] : List Int)) a0)) = some r := h
 clear h
 by_cases c2 : a0 = 0
 rotate_left
 ·rw [if_neg c2] at H
  have c2b0 : (a0 == 0) = false := beq_eq_false_iff_ne.mpr c2
  have c2b1 : (a0 != 0) = true := bne_iff_ne.mpr c2
  obtain ⟨y101, hy101⟩ : ∃ y_ : List Int, y_ = (([] : List Int)) := ⟨_, rfl⟩
  replace H : (au_.l0 k a0 y101 a0) = some r := by first | (rw [hy101]; with_reducible exact H) | (have H2_ := (Option.bind_some _ _).symm.trans H; rw [hy101]; with_reducible exact H2_) | (have H2_ := (Option.bind_some _ _).symm.trans H; with_reducible exact H2_) | with_reducible exact H | (rw [hy101]; exact H) | exact H
  have Ny101 := Aside0.mk hy101
  clear hy101
  have H' := Aside0.mk H
  clear H
  go_enter Tryd.func68, Tryd.ntmps68
  go_wp2_with (first | ((with_reducible refine aS_ (N := 10) rfl ?_); refine Kd.R_lit (Kd.int .u8) _ 5 ?hg (N := 10) ?hd (xs := ([] : List Int)) (inner := []) (ok := fun _ => True) (okp := fun _ => True) ?hr ?hp (fun _ hk => hk) trivial (Below.refl _ _) (Nat.le_refl _) (by simp) ?_; (case hd => rfl); (case hg => rfl); (case hr => (go_simp; try rfl)); (case hp => exact (Reps.none _ _)); intro v102 w3 ho4 hb hg_ hnew_; clear hg_ hnew_; (first | rw [← Ny101.out] at ho4 | (simp only [Int.reduceToNat] at ho4; rw [← Ny101.out] at ho4)); have HO103 := Aside0.mk (Kd.bw_ ho4 (ak_ (bz HB.out))); replace HB := Aside0.mk (ah_ (bz HB.out) hb); clear hb ho4))
  (try simp only [Act.put, lsa_, ls0_, ls1_])
  go_loopg [3, 4] k (fun kq v3 v4 w' => ∃ (x3_1 : List Int) (x4_1 : Int), v4 = .int .i64 x4_1 ∧ Aside0 (au_.l0 kq a0 x3_1 x4_1 = some r) ∧ Aside0 (kq ≤ k) ∧ Aside0 (Kd.R (Kd.int .u8) 5 w' w.heap.size (fun _ => True) v3 x3_1) ∧ Aside0 (Below w.heap.size w w'))
  case atStart => exact ⟨(y101), (a0), (by first | rfl | (simp; done) | (simp [*]; done)), H', ⟨Nat.le_refl _⟩, ⟨rz HO103.out⟩, ⟨bz HB.out⟩⟩
  case round =>
   clear H'
   obtain ⟨x3_1, x4_1, rfl, HA, HK1, HO_3, HB⟩ := hrel
   cases gk with
   | zero => exact absurd HA.out (by simp [au_.l0])
   | succ k1 =>
    have H := HA.out
    clear HA
    simp only [au_.l0] at H
    by_cases c5 : x4_1 = 0
    rotate_left
    ·rw [if_neg c5] at H
     have c5b0 : (x4_1 == 0) = false := beq_eq_false_iff_ne.mpr c5
     have c5b1 : (x4_1 != 0) = true := bne_iff_ne.mpr c5
     by_cases c19 : (Int.tmod x4_1 10) < 0
     rotate_left
     ·rw [if_neg c19] at H
      have c19b0 : decide ((Int.tmod x4_1 10) < 0) = false := decide_eq_false c19
      clear c19
      by_cases c22 : x3_1.length < 140737488355328
      rotate_left
      ·rw [if_neg c22] at H
       exact absurd H (by simp)
      rw [if_pos c22] at H
      have LMc22 := Aside0.mk c22
      clear c22
      obtain ⟨y107, hy107⟩ : ∃ y_ : List Int, y_ = (x3_1 ++ [(wrap64 (48 + (Int.tmod x4_1 10))) % 256]) := ⟨_, rfl⟩
      replace H : (au_.l0 k1 a0 y107 (wrap64 (Int.tdiv x4_1 10))) = some r := by first | (rw [hy107]; with_reducible exact H) | (have H2_ := (Option.bind_some _ _).symm.trans H; rw [hy107]; with_reducible exact H2_) | (have H2_ := (Option.bind_some _ _).symm.trans H; with_reducible exact H2_) | with_reducible exact H | (rw [hy107]; exact H) | exact H
      have Ny107 := Aside0.mk hy107
      clear hy107
      have H' := Aside0.mk H
      clear H
      go_wp2_with (first | ((with_reducible refine aY_ (b := .append) (xs := #[.tmp 22, .tmp 26]) rfl ?_); at_builtin; refine Kd.bM_ (Kd.int .u8) (w0 := w) w.heap.size rfl (.tmp 22) (.tmp 26) 33 5 (.int .u8 0) 1 rfl Tryd.underlying33 info5 rfl (by decide) (by omega) u3 x3_1 ((wrap64 (48 + (Int.tmod x4_1 10))) % 256) [.int .u8 ((wrap64 (48 + (Int.tmod x4_1 10))) % 256)] (fun _ => True) (fun _ => False) rfl rfl ?aP (fun _ hk => hk.elim) ?aF ?aO ?aB ?aS ?aL ?_; (case aP => exact rfl); (case aB => exact (bz HB.out)); (case aF => exact (fun _ _ => trivial)); (case aO => exact (rz HO_3.out)); (case aS => exact (ak_ (bz HB.out))); (case aL => have := LMc22.out; omega); intro v108 w23 ho hb hg hat; rw [← Ny107.out] at ho; replace HB := Aside0.mk (hb); have HO109 := Aside0.mk (ho); clear HO_3; clear ho hb hg hat))
      go_roundg k1
      case measure => have := HK1.out; omega
      case rel => exact ⟨(y107), (wrap64 (Int.tdiv x4_1 10)), (by first | rfl | (simp; done) | (simp [*]; done)), H', ⟨by have := HK1.out; omega⟩, ⟨rz HO109.out⟩, ⟨bz HB.out⟩⟩
     rw [if_pos c19] at H
     have c19b0 : decide ((Int.tmod x4_1 10) < 0) = true := decide_eq_true c19
     clear c19
     by_cases c20 : x3_1.length < 140737488355328
     rotate_left
     ·rw [if_neg c20] at H
      exact absurd H (by simp)
     rw [if_pos c20] at H
     have LMc20 := Aside0.mk c20
     clear c20
     obtain ⟨y104, hy104⟩ : ∃ y_ : List Int, y_ = (x3_1 ++ [(wrap64 (48 + (wrap64 (-(Int.tmod x4_1 10))))) % 256]) := ⟨_, rfl⟩
     replace H : (au_.l0 k1 a0 y104 (wrap64 (Int.tdiv x4_1 10))) = some r := by first | (rw [hy104]; with_reducible exact H) | (have H2_ := (Option.bind_some _ _).symm.trans H; rw [hy104]; with_reducible exact H2_) | (have H2_ := (Option.bind_some _ _).symm.trans H; with_reducible exact H2_) | with_reducible exact H | (rw [hy104]; exact H) | exact H
     have Ny104 := Aside0.mk hy104
     clear hy104
     have H' := Aside0.mk H
     clear H
     go_wp2_with (first | ((with_reducible refine aY_ (b := .append) (xs := #[.tmp 22, .tmp 26]) rfl ?_); at_builtin; refine Kd.bM_ (Kd.int .u8) (w0 := w) w.heap.size rfl (.tmp 22) (.tmp 26) 33 5 (.int .u8 0) 1 rfl Tryd.underlying33 info5 rfl (by decide) (by omega) u3 x3_1 ((wrap64 (48 + (wrap64 (-(Int.tmod x4_1 10))))) % 256) [.int .u8 ((wrap64 (48 + (wrap64 (-(Int.tmod x4_1 10))))) % 256)] (fun _ => True) (fun _ => False) rfl rfl ?aP (fun _ hk => hk.elim) ?aF ?aO ?aB ?aS ?aL ?_; (case aP => exact rfl); (case aB => exact (bz HB.out)); (case aF => exact (fun _ _ => trivial)); (case aO => exact (rz HO_3.out)); (case aS => exact (ak_ (bz HB.out))); (case aL => have := LMc20.out; omega); intro v105 w21 ho hb hg hat; rw [← Ny104.out] at ho; replace HB := Aside0.mk (hb); have HO106 := Aside0.mk (ho); clear HO_3; clear ho hb hg hat))
     go_roundg k1
     case measure => have := HK1.out; omega
     case rel => exact ⟨(y104), (wrap64 (Int.tdiv x4_1 10)), (by first | rfl | (simp; done) | (simp [*]; done)), H', ⟨by have := HK1.out; omega⟩, ⟨rz HO106.out⟩, ⟨bz HB.out⟩⟩
    rw [if_pos c5] at H
    have c5b0 : (x4_1 == 0) = true := beq_iff_eq.mpr c5
    have c5b1 : (x4_1 != 0) = false := bne_eq_false_iff_eq.mpr c5
    clear c5
    have HC6 := Aside0.mk H
    clear H
    go_upto_if 29 with (fail)
    go_cut [3] (fun v3 wc => ∃ (kq : Nat) (x3_5 : List Int), Aside0 (au_.j1 kq x3_5 = some r) ∧ Aside0 (kq ≤ k1) ∧ Aside0 (Kd.R (Kd.int .u8) 5 wc w.heap.size (fun _ => True) v3 x3_5) ∧ Aside0 (Below w.heap.size w wc))
    case first =>
     have H := HC6.out
     clear HC6
     by_cases c7 : a0 < 0
     rotate_left
     ·rw [if_neg c7] at H
      have c7b0 : decide (a0 < 0) = false := decide_eq_false c7
      clear c7
      (first | rw [c7b0] | (simp only [i64_w, i32_w]; rw [c7b0]) | (simp only [c7b1, Bool.not_true, Bool.not_false]) | (simp only [c7b0, Bool.not_true, Bool.not_false]) | skip)
      have H' := Aside0.mk H
      clear H
      go_wp2
      go_meet
      case rel => exact ⟨_, (x3_1), H', ⟨by have := HK1.out; first | omega | exact Nat.le_refl _⟩, ⟨rz HO_3.out⟩, ⟨bz HB.out⟩⟩
     rw [if_pos c7] at H
     have c7b0 : decide (a0 < 0) = true := decide_eq_true c7
     clear c7
     (first | rw [c7b0] | (simp only [i64_w, i32_w]; rw [c7b0]) | (simp only [c7b1, Bool.not_true, Bool.not_false]) | (simp only [c7b0, Bool.not_true, Bool.not_false]) | skip)
     by_cases c8 : x3_1.length < 140737488355328
     rotate_left
     ·rw [if_neg c8] at H
      exact absurd H (by simp)
     rw [if_pos c8] at H
     have LMc8 := Aside0.mk c8
     clear c8
     obtain ⟨y110, hy110⟩ : ∃ y_ : List Int, y_ = (x3_1 ++ [45]) := ⟨_, rfl⟩
     replace H : (au_.j1 k1 y110) = some r := by first | (rw [hy110]; with_reducible exact H) | (have H2_ := (Option.bind_some _ _).symm.trans H; rw [hy110]; with_reducible exact H2_) | (have H2_ := (Option.bind_some _ _).symm.trans H; with_reducible exact H2_) | with_reducible exact H | (rw [hy110]; exact H) | exact H
     have Ny110 := Aside0.mk hy110
     clear hy110
     have H' := Aside0.mk H
     clear H
     go_wp2_with (first | ((with_reducible refine aY_ (b := .append) (xs := #[.tmp 30, .tmp 31]) rfl ?_); at_builtin; refine Kd.bM_ (Kd.int .u8) (w0 := w) w.heap.size rfl (.tmp 30) (.tmp 31) 33 5 (.int .u8 0) 1 rfl Tryd.underlying33 info5 rfl (by decide) (by omega) u3 x3_1 45 [.int .u8 45] (fun _ => True) (fun _ => False) rfl rfl ?aP (fun _ hk => hk.elim) ?aF ?aO ?aB ?aS ?aL ?_; (case aP => exact rfl); (case aB => exact (bz HB.out)); (case aF => exact (fun _ _ => trivial)); (case aO => exact (rz HO_3.out)); (case aS => exact (ak_ (bz HB.out))); (case aL => have := LMc8.out; omega); intro v111 w9 ho hb hg hat; rw [← Ny110.out] at ho; replace HB := Aside0.mk (hb); have HO112 := Aside0.mk (ho); clear HO_3; clear ho hb hg hat))
     go_meet
     case rel => exact ⟨_, (y110), H', ⟨by have := HK1.out; first | omega | exact Nat.le_refl _⟩, ⟨rz HO112.out⟩, ⟨bz HB.out⟩⟩
    case rest =>
     clear HC6
     obtain ⟨kq, x3_5, HA, HJ5, HO_3, HB⟩ := hcut
     cases kq with
     | zero => exact absurd HA.out (by simp [au_.j1])
     | succ kj5 =>
      have H := HA.out
      clear HA
      simp only [au_.j1] at H
      obtain ⟨y113, hy113⟩ : ∃ y_ : List Int, y_ = (([] : List Int)) := ⟨_, rfl⟩
      replace H : (au_.l1 kj5 x3_5 y113 (wrap64 ((x3_5.length : Int) - 1))) = some r := by first | (rw [hy113]; with_reducible exact H) | (have H2_ := (Option.bind_some _ _).symm.trans H; rw [hy113]; with_reducible exact H2_) | (have H2_ := (Option.bind_some _ _).symm.trans H; with_reducible exact H2_) | with_reducible exact H | (rw [hy113]; exact H) | exact H
      have Ny113 := Aside0.mk hy113
      clear hy113
      have H' := Aside0.mk H
      clear H
      go_wp2_with (first | ((with_reducible refine aS_ (N := 33) rfl ?_); refine Kd.R_lit (Kd.int .u8) _ 5 ?hg (N := 33) ?hd (xs := ([] : List Int)) (inner := []) (ok := fun _ => True) (okp := fun _ => True) ?hr ?hp (fun _ hk => hk) trivial (Below.refl _ _) (Nat.le_refl _) (by simp) ?_; (case hd => rfl); (case hg => rfl); (case hr => (go_simp; try rfl)); (case hp => exact (Reps.none _ _)); intro v114 w10 ho11 hb hg_ hnew_; clear hg_ hnew_; (first | rw [← Ny113.out] at ho11 | (simp only [Int.reduceToNat] at ho11; rw [← Ny113.out] at ho11)); have HO115 := Aside0.mk (Kd.bw_ (Kd.bE_ ho11 (Kd.R_lt (rz HO_3.out))) (ak_ (bz HB.out))); replace HO_3 := Aside0.mk (Kd.aW_ (rz HO_3.out) (Kd.bs_ ho11) hb); replace HB := Aside0.mk (ah_ (bz HB.out) hb); clear hb ho11; obtain ⟨Ao12, co12, eo12⟩ := Kd.bL_ HO_3.out; subst eo12))
      (try simp only [Act.put, lsa_, ls0_, ls1_])
      go_loopg [6, 7] kj5 (fun kq v6 v7 w' => ∃ (x6_3 : List Int) (x7_3 : Int), v7 = .int .i64 x7_3 ∧ Aside0 (au_.l1 kq x3_5 x6_3 x7_3 = some r) ∧ Aside0 (kq ≤ kj5) ∧ Aside0 (Kd.R (Kd.int .u8) 5 w' w.heap.size (fun k_ => some k_ ≠ (v6 : Value).ownBlock) (.slice Ao12 x3_5.length co12) x3_5) ∧ Aside0 (Kd.R (Kd.int .u8) 5 w' w.heap.size (fun k_ => some k_ ≠ ((.slice Ao12 x3_5.length co12) : Value).ownBlock) v6 x6_3) ∧ Aside0 (Below w.heap.size w w'))
      case atStart => exact ⟨(y113), (wrap64 ((x3_5.length : Int) - 1)), (by first | rfl | (simp; done) | (simp [*]; done)), H', ⟨Nat.le_refl _⟩, ⟨rz (Kd.aG_ HO_3.out (fun _ hk => hk.2))⟩, ⟨rz (Kd.aG_ HO115.out (fun _ hk => hk.2))⟩, ⟨bz HB.out⟩⟩
      case round =>
       clear H'
       obtain ⟨x6_3, x7_3, rfl, HA, HK3, HO_3, HO_6, HB⟩ := hrel
       cases gk with
       | zero => exact absurd HA.out (by simp [au_.l1])
       | succ k3 =>
        have H := HA.out
        clear HA
        simp only [au_.l1] at H
        by_cases c13 : x7_3 ≥ 0
        rotate_left
        ·rw [if_neg c13] at H
         have c13b0 : decide (0 ≤ x7_3) = false := decide_eq_false c13
         clear c13
         obtain rfl := Option.some.inj H
         have hcv18 := own_string (P := Tryd.prog) Tryd.underlying33 Tryd.underlying5 Tryd.underlying9 (Kd.own_of_R HO_6.out)
         go_wp2
         go_ret
         exact ⟨by first | rfl | (simp [*, aw_, av_] <;> rfl), bz HB.out⟩
        rw [if_pos c13] at H
        have c13b0 : decide (0 ≤ x7_3) = true := decide_eq_true c13
        clear c13
        by_cases c14 : 0 ≤ x7_3
        rotate_left
        ·rw [if_neg c14] at H
         exact absurd H (by simp)
        rw [if_pos c14] at H
        have c14b0 : decide (0 ≤ x7_3) = true := decide_eq_true c14
        clear c14
        by_cases c15 : x7_3 < (x3_5.length : Int)
        rotate_left
        ·rw [if_neg c15] at H
         exact absurd H (by simp)
        rw [if_pos c15] at H
        have c15b0 : decide (x7_3 < (x3_5.length : Int)) = true := decide_eq_true c15
        clear c15
        by_cases c16 : x6_3.length < 140737488355328
        rotate_left
        ·rw [if_neg c16] at H
         exact absurd H (by simp)
        rw [if_pos c16] at H
        have LMc16 := Aside0.mk c16
        clear c16
        obtain ⟨y117, hy117⟩ : ∃ y_ : List Int, y_ = (x6_3 ++ [rd x3_5 x7_3]) := ⟨_, rfl⟩
        replace H : (au_.l1 k3 x3_5 y117 (wrap64 (x7_3 - 1))) = some r := by first | (rw [hy117]; with_reducible exact H) | (have H2_ := (Option.bind_some _ _).symm.trans H; rw [hy117]; with_reducible exact H2_) | (have H2_ := (Option.bind_some _ _).symm.trans H; with_reducible exact H2_) | with_reducible exact H | (rw [hy117]; exact H) | exact H
        have Ny117 := Aside0.mk hy117
        clear hy117
        have H' := Aside0.mk H
        clear H
        have p116 : 0 ≤ (x7_3 : Int) := of_decide_eq_true (by assumption)
        have q116 : x7_3 < (x3_5.length : Int) := of_decide_eq_true (by assumption)
        obtain ⟨ad116, e116, hx116_0⟩ := Kd.at_int (Kd.aE_ HO_3.out).2.2 x7_3 p116 q116
        cases e116
        replace p116 := eq_true p116
        replace q116 := eq_true q116
        go_wp2_with (first | ((with_reducible refine aY_ (b := .append) (xs := #[.tmp 41, .tmp 46]) rfl ?_); at_builtin; refine Kd.bM_ (Kd.int .u8) (w0 := w) w.heap.size rfl (.tmp 41) (.tmp 46) 33 5 (.int .u8 0) 1 rfl Tryd.underlying33 info5 rfl (by decide) (by omega) u6 x6_3 (rd x3_5 x7_3) [.int .u8 (rd x3_5 x7_3)] (fun k_ => some k_ ≠ (.slice (some ad116) x3_5.length co12 : Value).ownBlock) (fun _ => False) rfl rfl ?aP (fun _ hk => hk.elim) ?aF ?aO ?aB ?aS ?aL ?_; (case aP => exact rfl); (case aB => exact (bz HB.out)); (case aF => exact (fun k_ hk => Kd.fresh' (Kd.R_lt (rz HO_3.out)) k_ hk)); (case aO => exact (rz HO_6.out)); (case aS => exact (ak_ (bz HB.out))); (case aL => have := LMc16.out; omega); intro v118 w17 ho hb hg hat; rw [← Ny117.out] at ho; replace HO_3 := Aside0.mk (Kd.R_after (ok := (fun _ => True)) (rz (Kd.aG_ HO_3.out (fun _ hk => ⟨trivial, hk⟩))) hg hat); replace HB := Aside0.mk (hb); have HO119 := Aside0.mk (ho); clear HO_6; clear ho hb hg hat))
        go_roundg k3
        case measure => have := HK1.out; have := HJ5.out; have := HK3.out; omega
        case rel => exact ⟨(y117), (wrap64 (x7_3 - 1)), (by first | rfl | (simp; done) | (simp [*]; done)), H', ⟨by have := HK1.out; have := HJ5.out; have := HK3.out; omega⟩, ⟨rz (Kd.aG_ HO_3.out (fun _ hk => hk.2))⟩, ⟨rz HO119.out⟩, ⟨bz HB.out⟩⟩
 rw [if_pos c2] at H
 have c2b0 : (a0 == 0) = true := beq_iff_eq.mpr c2
 have c2b1 : (a0 != 0) = false := bne_eq_false_iff_eq.mpr c2
 clear c2
 obtain rfl := Option.some.inj H
 go_enter Tryd.func68, Tryd.ntmps68
 go_wp2
 go_ret
 exact ⟨by first | rfl | (simp [*, aw_, av_] <;> rfl), bz HB.out⟩
def bJ_.f (k : Nat) (l0 : List (S94)) : Option (ByteArray) := if 0 < (l0.length : Int) then (if ((bP_ l0 0).f0).size + 1 ≤ 9223372036854775807 then ((au_.f k ((bP_ l0 0).f1)).bind fun t103 => (if ((bP_ l0 0).f0).size + 1 + t103.size ≤ 9223372036854775807 then (if ((bP_ l0 0).f0).size + 1 + t103.size + 1 ≤ 9223372036854775807 then ((au_.f k ((bP_ l0 0).f2)).bind fun t105 => (if ((bP_ l0 0).f0).size + 1 + t103.size + 1 + t105.size ≤ 9223372036854775807 then (some ((((((bP_ l0 0).f0) ++ (⟨#[32]⟩ : ByteArray)) ++ t103) ++ (⟨#[32]⟩ : ByteArray)) ++ t105)) else (none))) else (none)) else (none))) else (none)) else (none)
def bJ_.T1 : Bool × List (List Nat × List Nat) := (true, [([], []), ([0], [0]), ([1], [1]), ([2], [2]), ([3], [3]), ([], []), ([5], [5]), ([6], [6]), ([7], [7]), ([8], [8]), ([4, 9], [4, 9]), ([10], [10]), ([], []), ([12], [12]), ([13], [13]), ([14], [14]), ([15, 9], [15]), ([11, 16], [11, 16]), ([17, 16, 0, 1, 2, 3, 4, 5, 6, 7, 8, 9, 10, 11, 12, 13, 14, 15, 16, 17], [17])])
def bJ_.B1 : List Nat := [0, 1, 3, 7, 15, 0, 32, 96, 224, 480, 1023, 2047, 0, 4096, 12288, 28672, 62432, 131071, 262143]
theorem bJ_.tab1 : rtab .any (opsOf Tryd.f99 1) = bJ_.T1 := by kernel_rfl
theorem bJ_.bits1 : cE_ bJ_.T1.2 bJ_.B1 = true := by kernel_rfl
set_option maxHeartbeats 8000000 in
set_option maxRecDepth 100000 in
theorem bJ_.calls (k : Nat) (A0 : Option Addr) (l0 : List (S94)) (r : ByteArray) (w : World) (hr0 : Kd.C k94 w A0 l0.length l0) (h : bJ_.f k l0 = some r) :
  Calls Tryd.prog 99 #[.pointer A0] w fun e w' => e = .returned (.string r) ∧ Below w.heap.size w w' := by
 have HR0 := Aside0.mk hr0
 clear hr0
 have HB := Aside0.mk (Below.refl w.heap.size w)
 have H : (if 0 < (l0.length : Int) then (if ((bP_ l0 0).f0).size + 1 ≤ 9223372036854775807 then ((au_.f k ((bP_ l0 0).f1)).bind fun t103 => (if ((bP_ l0 0).f0).size + 1 + t103.size ≤ 9223372036854775807 then (if ((bP_ l0 0).f0).size + 1 + t103.size + 1 ≤ 9223372036854775807 then ((au_.f k ((bP_ l0 0).f2)).bind fun t105 => (if ((bP_ l0 0).f0).size + 1 + t103.size + 1 + t105.size ≤ 9223372036854775807 then (some ((((((bP_ l0 0).f0) ++ (⟨#[32]⟩ : ByteArray)) ++ t103) ++ (⟨#[32]⟩ : ByteArray)) ++ t105)) else (none))) else (none)) else (none))) else (none)) else (none)) = some r := h
 clear h
 by_cases c2 : 0 < (l0.length : Int)
 rotate_left
 ·rw [if_neg c2] at H
  exact absurd H (by simp)
 rw [if_pos c2] at H
 have c2b0 : decide (0 < (l0.length : Int)) = true := decide_eq_true c2
 have c2b1 : decide (0 < l0.length) = true := decide_eq_true (by omega)
 clear c2
 by_cases c3 : ((bP_ l0 0).f0).size + 1 ≤ 9223372036854775807
 rotate_left
 ·rw [if_neg c3] at H
  exact absurd H (by simp)
 rw [if_pos c3] at H
 have c3b0 := eq_true c3
 have c3b1 : decide (((bP_ l0 0).f0).size + 1 ≤ 9223372036854775807) = true := decide_eq_true c3
 try have c3b2 : (9223372036854775807 < ((bP_ l0 0).f0).size + 1) = False := eq_false (Nat.not_lt.2 c3)
 replace H := Option.bind_eq_some_iff.mp H
 obtain ⟨t103, A40, H⟩ := H
 (try dsimp only at H)
 have A4 := Aside0.mk A40
 clear A40
 by_cases c5 : ((bP_ l0 0).f0).size + 1 + t103.size ≤ 9223372036854775807
 rotate_left
 ·rw [if_neg c5] at H
  exact absurd H (by simp)
 rw [if_pos c5] at H
 have c5b0 := eq_true c5
 have c5b1 : decide (((bP_ l0 0).f0).size + 1 + t103.size ≤ 9223372036854775807) = true := decide_eq_true c5
 try have c5b2 : (9223372036854775807 < ((bP_ l0 0).f0).size + 1 + t103.size) = False := eq_false (Nat.not_lt.2 c5)
 by_cases c6 : ((bP_ l0 0).f0).size + 1 + t103.size + 1 ≤ 9223372036854775807
 rotate_left
 ·rw [if_neg c6] at H
  exact absurd H (by simp)
 rw [if_pos c6] at H
 have c6b0 := eq_true c6
 have c6b1 : decide (((bP_ l0 0).f0).size + 1 + t103.size + 1 ≤ 9223372036854775807) = true := decide_eq_true c6
 try have c6b2 : (9223372036854775807 < ((bP_ l0 0).f0).size + 1 + t103.size + 1) = False := eq_false (Nat.not_lt.2 c6)
 replace H := Option.bind_eq_some_iff.mp H
 obtain ⟨t105, A70, H⟩ := H
 (try dsimp only at H)
 have A7 := Aside0.mk A70
 clear A70
 by_cases c8 : ((bP_ l0 0).f0).size + 1 + t103.size + 1 + t105.size ≤ 9223372036854775807
 rotate_left
 ·rw [if_neg c8] at H
  exact absurd H (by simp)
 rw [if_pos c8] at H
 have c8b0 := eq_true c8
 have c8b1 : decide (((bP_ l0 0).f0).size + 1 + t103.size + 1 + t105.size ≤ 9223372036854775807) = true := decide_eq_true c8
 try have c8b2 : (9223372036854775807 < ((bP_ l0 0).f0).size + 1 + t103.size + 1 + t105.size) = False := eq_false (Nat.not_lt.2 c8)
 obtain rfl := Option.some.inj H
 go_enter Tryd.func99, Tryd.ntmps99
 try go_wp2
 have n0_ := Aside0.mk (bD_ HB.out)
 clear HB
 have HB := n0_
 clear n0_
 have p101 : 0 ≤ (0 : Int) := (by omega)
 have q101 : 0 < (l0.length : Int) := of_decide_eq_true (by assumption)
 obtain ⟨ad101, e101, hx101_0, hx101_1, hx101_2⟩ := at_T94 HR0.out 0 p101 q101
 have hw101_2 := hx101_2
 (try simp only [Int.toNat_zero, Nat.zero_mul, Addr.add_zero'] at hw101_2)
 have hw101_1 := hx101_1
 (try simp only [Int.toNat_zero, Nat.zero_mul, Addr.add_zero'] at hw101_1)
 have hw101_0 := hx101_0
 (try simp only [Int.toNat_zero, Nat.zero_mul, Addr.add_zero'] at hw101_0)
 cases e101
 have qi101 : (0 < l0.length) = True := eq_true (by omega)
 (try simp only [Int.toNat_zero, Nat.zero_mul, Addr.add_zero'] at hx101_0 hx101_1 hx101_2)
 replace hx101_0 := bu_ HB.out hx101_0
 replace hx101_1 := bu_ HB.out hx101_1
 replace hx101_2 := bu_ HB.out hx101_2
 replace p101 := eq_true p101
 replace q101 := eq_true q101
 have p102 : 0 ≤ (0 : Int) := (by omega)
 have q102 : 0 < (l0.length : Int) := of_decide_eq_true (by assumption)
 obtain ⟨ad102, e102, hx102_0, hx102_1, hx102_2⟩ := at_T94 HR0.out 0 p102 q102
 have hw102_2 := hx102_2
 (try simp only [Int.toNat_zero, Nat.zero_mul, Addr.add_zero'] at hw102_2)
 have hw102_1 := hx102_1
 (try simp only [Int.toNat_zero, Nat.zero_mul, Addr.add_zero'] at hw102_1)
 have hw102_0 := hx102_0
 (try simp only [Int.toNat_zero, Nat.zero_mul, Addr.add_zero'] at hw102_0)
 obtain rfl : ad101 = ad102 := (by injection e102)
 have qi102 : (0 < l0.length) = True := eq_true (by omega)
 (try simp only [Int.toNat_zero, Nat.zero_mul, Addr.add_zero'] at hx102_0 hx102_1 hx102_2)
 replace hx102_0 := bu_ HB.out hx102_0
 replace hx102_1 := bu_ HB.out hx102_1
 replace hx102_2 := bu_ HB.out hx102_2
 replace p102 := eq_true p102
 replace q102 := eq_true q102
 have p104 : 0 ≤ (0 : Int) := (by omega)
 have q104 : 0 < (l0.length : Int) := of_decide_eq_true (by assumption)
 obtain ⟨ad104, e104, hx104_0, hx104_1, hx104_2⟩ := at_T94 HR0.out 0 p104 q104
 have hw104_2 := hx104_2
 (try simp only [Int.toNat_zero, Nat.zero_mul, Addr.add_zero'] at hw104_2)
 have hw104_1 := hx104_1
 (try simp only [Int.toNat_zero, Nat.zero_mul, Addr.add_zero'] at hw104_1)
 have hw104_0 := hx104_0
 (try simp only [Int.toNat_zero, Nat.zero_mul, Addr.add_zero'] at hw104_0)
 obtain rfl : ad101 = ad104 := (by injection e104)
 have qi104 : (0 < l0.length) = True := eq_true (by omega)
 (try simp only [Int.toNat_zero, Nat.zero_mul, Addr.add_zero'] at hx104_0 hx104_1 hx104_2)
 replace hx104_0 := bu_ HB.out hx104_0
 replace hx104_1 := bu_ HB.out hx104_1
 replace hx104_2 := bu_ HB.out hx104_2
 replace p104 := eq_true p104
 replace q104 := eq_true q104
 refine cW_ (n := 19) (S := fun w' => w'.cell? ad101 = some (.string ((bP_ l0 0).f0)) ∧ w'.cell? ⟨ad101.block, ad101.off + 1, none⟩ = some (.int .i64 ((bP_ l0 0).f1)) ∧ w'.cell? ⟨ad101.block, ad101.off + 2, none⟩ = some (.int .i64 ((bP_ l0 0).f2)) ∧ w'.cell? ad101 = some (.string ((bP_ l0 0).f0)) ∧ w'.cell? ⟨ad101.block, ad101.off + 1, none⟩ = some (.int .i64 ((bP_ l0 0).f1)) ∧ w'.cell? ⟨ad101.block, ad101.off + 2, none⟩ = some (.int .i64 ((bP_ l0 0).f2)) ∧ w'.cell? ad101 = some (.string ((bP_ l0 0).f0)) ∧ w'.cell? ⟨ad101.block, ad101.off + 1, none⟩ = some (.int .i64 ((bP_ l0 0).f1)) ∧ w'.cell? ⟨ad101.block, ad101.off + 2, none⟩ = some (.int .i64 ((bP_ l0 0).f2))) (ds := []) #[f_,f_,f_,f_,f_,f_,f_,f_,f_,f_,f_,f_,f_,f_,f_,f_,f_,f_,f_] (by kernel_rfl) rfl rfl ⟨(bv_ HB.out hw101_0), (bv_ HB.out hw101_1), (bv_ HB.out hw101_2), (bv_ HB.out hw102_0), (bv_ HB.out hw102_1), (bv_ HB.out hw102_2), (bv_ HB.out hw104_0), (bv_ HB.out hw104_1), (bv_ HB.out hw104_2)⟩ (fun hHeld => ?_); refine ce_ bJ_.tab1 bJ_.bits1 (fun HT_ HW_ => ?_)
 generalize w.drew = w9 at HB hx101_0 hx101_1 hx101_2 hx102_0 hx102_1 hx102_2 hx104_0 hx104_1 hx104_2 hHeld ⊢
 refine pu 0 3 #[t_,f_,f_,f_,f_,f_,f_,f_,f_,f_,f_,f_,f_,f_,f_,f_,f_,f_,f_] HT_ ?_
 refine pu 1 4 #[t_,t_,f_,f_,f_,f_,f_,f_,f_,f_,f_,f_,f_,f_,f_,f_,f_,f_,f_] HT_ ?_
 refine pu 2 5 #[t_,t_,t_,f_,f_,f_,f_,f_,f_,f_,f_,f_,f_,f_,f_,f_,f_,f_,f_] HT_ ?_
 refine pu 5 8 #[t_,t_,t_,f_,f_,t_,f_,f_,f_,f_,f_,f_,f_,f_,f_,f_,f_,f_,f_] HT_ ?_
 refine pu 6 9 #[t_,t_,t_,f_,f_,t_,t_,f_,f_,f_,f_,f_,f_,f_,f_,f_,f_,f_,f_] HT_ ?_
 refine pu 7 10 #[t_,t_,t_,f_,f_,t_,t_,t_,f_,f_,f_,f_,f_,f_,f_,f_,f_,f_,f_] HT_ ?_
 refine pu 12 15 #[t_,t_,t_,f_,f_,t_,t_,t_,f_,f_,f_,f_,t_,f_,f_,f_,f_,f_,f_] HT_ ?_
 refine pu 13 16 #[t_,t_,t_,f_,f_,t_,t_,t_,f_,f_,f_,f_,t_,t_,f_,f_,f_,f_,f_] HT_ ?_
 refine pu 14 17 #[t_,t_,t_,f_,f_,t_,t_,t_,f_,f_,f_,f_,t_,t_,t_,f_,f_,f_,f_] HT_ ?_
 refine tk 3 6 #[t_,t_,t_,t_,f_,t_,t_,t_,f_,f_,f_,f_,t_,t_,t_,f_,f_,f_,f_] HT_ HW_ hHeld ?_ (hv := by rintro w' ⟨s0, s1, s2, s3, s4, s5, s6, s7, s8⟩; go_simp; with_reducible rfl)
 refine pu 4 7 #[t_,t_,t_,t_,t_,t_,t_,t_,f_,f_,f_,f_,t_,t_,t_,f_,f_,f_,f_] HT_ ?_
 refine tk 8 11 #[t_,t_,t_,t_,t_,t_,t_,t_,t_,f_,f_,f_,t_,t_,t_,f_,f_,f_,f_] HT_ HW_ hHeld ?_ (hv := by rintro w' ⟨s0, s1, s2, s3, s4, s5, s6, s7, s8⟩; go_simp; with_reducible rfl)
 refine tk 15 18 #[t_,t_,t_,t_,t_,t_,t_,t_,t_,f_,f_,f_,t_,t_,t_,t_,f_,f_,f_] HT_ HW_ hHeld ?_ (hv := by rintro w' ⟨s0, s1, s2, s3, s4, s5, s6, s7, s8⟩; go_simp; with_reducible rfl)
 refine one_ (i := 9) (N := some 12) #[t_,t_,t_,t_,t_,t_,t_,t_,t_,t_,f_,f_,t_,t_,t_,t_,f_,f_,f_] rfl rfl (bZ_ HT_.out (by kernel_rfl)) (by decide) (fun K hK => ?_)
 (first | refine goes_ Tryd.func68 (by kernel_rfl) rfl #[.int .i64 ((bP_ l0 0).f1)] (by rfl) rfl rfl (by first | rfl | (simp only [lma_, lmc_, lmn_]; first | done | rfl)) ?_ | refine RPW.cj_ Tryd.func68 (by kernel_rfl) rfl #[.int .i64 ((bP_ l0 0).f1)] (by rfl) rfl rfl rfl (by first | rfl | (simp only [lma_, lmc_, lmn_]; first | done | rfl)) ?_ | refine RPW.ci_ Tryd.func68 (by kernel_rfl) rfl #[.int .i64 ((bP_ l0 0).f1)] (by rfl) rfl rfl rfl (by first | rfl | (simp only [lma_, lmc_, lmn_]; first | done | rfl)) ?_)
 with_reducible refine (au_.calls k ((bP_ l0 0).f1) t103 _ A4.out).mono ?_
 rintro e w10 ⟨rfl, hb⟩
 refine ⟨_, rfl, ?_⟩
 have n0_ := Aside0.mk (ah_ (bz HB.out) hb)
 clear HB
 have HB := n0_
 clear n0_
 (try clear hb)
 refine hK.out _ _ ⟨(bv_ HB.out hw101_0), (bv_ HB.out hw101_1), (bv_ HB.out hw101_2), (bv_ HB.out hw102_0), (bv_ HB.out hw102_1), (bv_ HB.out hw102_2), (bv_ HB.out hw104_0), (bv_ HB.out hw104_1), (bv_ HB.out hw104_2)⟩ (fun hHeld => ?_)
 clear hK K
 refine norm_ (a' := ?_) ?_ ?_
 rotate_left
 ·show Act.put _ (some 12) _ = _
  simp only [Act.put, lsa_, ls0_, ls1_, i64_w, i32_w]
  rfl
 refine pu 10 13 #[t_,t_,t_,t_,t_,t_,t_,t_,t_,t_,t_,f_,t_,t_,t_,t_,f_,f_,f_] HT_ ?_
 refine pu 11 14 #[t_,t_,t_,t_,t_,t_,t_,t_,t_,t_,t_,t_,t_,t_,t_,t_,f_,f_,f_] HT_ ?_
 refine one_ (i := 16) (N := some 19) #[t_,t_,t_,t_,t_,t_,t_,t_,t_,t_,t_,t_,t_,t_,t_,t_,t_,f_,f_] rfl rfl (bZ_ HT_.out (by kernel_rfl)) (by decide) (fun K hK => ?_)
 (first | refine goes_ Tryd.func68 (by kernel_rfl) rfl #[.int .i64 ((bP_ l0 0).f2)] (by rfl) rfl rfl (by first | rfl | (simp only [lma_, lmc_, lmn_]; first | done | rfl)) ?_ | refine RPW.cj_ Tryd.func68 (by kernel_rfl) rfl #[.int .i64 ((bP_ l0 0).f2)] (by rfl) rfl rfl rfl (by first | rfl | (simp only [lma_, lmc_, lmn_]; first | done | rfl)) ?_ | refine RPW.ci_ Tryd.func68 (by kernel_rfl) rfl #[.int .i64 ((bP_ l0 0).f2)] (by rfl) rfl rfl rfl (by first | rfl | (simp only [lma_, lmc_, lmn_]; first | done | rfl)) ?_)
 with_reducible refine (au_.calls k ((bP_ l0 0).f2) t105 _ A7.out).mono ?_
 rintro e w11 ⟨rfl, hb⟩
 refine ⟨_, rfl, ?_⟩
 have n0_ := Aside0.mk (ah_ (bz HB.out) hb)
 clear HB
 have HB := n0_
 clear n0_
 (try clear hb)
 refine hK.out _ _ ⟨(bv_ HB.out hw101_0), (bv_ HB.out hw101_1), (bv_ HB.out hw101_2), (bv_ HB.out hw102_0), (bv_ HB.out hw102_1), (bv_ HB.out hw102_2), (bv_ HB.out hw104_0), (bv_ HB.out hw104_1), (bv_ HB.out hw104_2)⟩ (fun hHeld => ?_)
 clear hK K
 refine norm_ (a' := ?_) ?_ ?_
 rotate_left
 ·show Act.put _ (some 19) _ = _
  simp only [Act.put, lsa_, ls0_, ls1_, i64_w, i32_w]
  rfl
 refine pu 17 20 #[t_,t_,t_,t_,t_,t_,t_,t_,t_,t_,t_,t_,t_,t_,t_,t_,t_,t_,f_] HT_ ?_
 refine pu 18 2 #[t_,t_,t_,t_,t_,t_,t_,t_,t_,t_,t_,t_,t_,t_,t_,t_,t_,t_,t_] HT_ ?_
 refine done_ (cO_ HT_.out (by kernel_rfl)) ?_
 try go_wp2
 go_ret
 exact ⟨by first | rfl | (simp [*, aw_, av_] <;> rfl), bz HB.out⟩
def bC_.l0 : Nat → List Int → ByteArray → Int → Option (ByteArray)
 | 0, _, _, _ => none
 | k + 1, x0, x3, x4 => if x4 < (x0.length : Int) then (if x4 > 0 then (if x3.size + 1 ≤ 9223372036854775807 then (if 0 ≤ x4 then ((au_.f k (rd x0 x4)).bind fun t102 => (if x3.size + 1 + t102.size ≤ 9223372036854775807 then (bC_.l0 k x0 ((x3 ++ (⟨#[44]⟩ : ByteArray)) ++ t102) (wrap64 (x4 + 1))) else (none))) else (none)) else (none)) else (if 0 ≤ x4 then ((au_.f k (rd x0 x4)).bind fun t104 => (if x3.size + t104.size ≤ 9223372036854775807 then (bC_.l0 k x0 (x3 ++ t104) (wrap64 (x4 + 1))) else (none))) else (none))) else (some x3)
def bC_.f (k : Nat) (l0 : List Int) : Option (ByteArray) := if (l0.length : Int) = 0 then (some (⟨#[45]⟩ : ByteArray)) else (bC_.l0 k l0 (⟨#[]⟩ : ByteArray) 0)
set_option maxHeartbeats 8000000 in
set_option maxRecDepth 100000 in
theorem bC_.calls (k : Nat) (A0 : Option Addr) (c0 : Nat) (l0 : List Int) (r : ByteArray) (w : World) (hr0 : Kd.C (Kd.int .i64) w A0 l0.length l0) (hc0 : l0.length ≤ c0) (h : bC_.f k l0 = some r) :
  Calls Tryd.prog 100 #[.slice A0 l0.length c0] w fun e w' => e = .returned (.string r) ∧ Below w.heap.size w w' := by
 have HR0 := Aside0.mk hr0
 have HC0 := Aside0.mk hc0
 clear hr0 hc0
 have HB := Aside0.mk (Below.refl w.heap.size w)
 have H : (if (l0.length : Int) = 0 then (some (⟨#[45]⟩ : ByteArray)) else (bC_.l0 k l0 (⟨#[]⟩ : ByteArray) 0)) = some r := h
 clear h
 by_cases c2 : (l0.length : Int) = 0
 rotate_left
 ·rw [if_neg c2] at H
  have c2b0 : ((l0.length : Int) == 0) = false := beq_eq_false_iff_ne.mpr c2
  have c2b1 : ((l0.length : Int) != 0) = true := bne_iff_ne.mpr c2
  have c2b2 : ¬ (l0 = []) := fun h_ => c2 (by rw [h_]; rfl)
  have H' := Aside0.mk H
  clear H
  go_enter Tryd.func100, Tryd.ntmps100
  go_wp2
  (try simp only [Act.put, lsa_, ls0_, ls1_])
  go_loopg [3, 4] k (fun kq v3 v4 w' => ∃ (x3_1 : ByteArray) (x4_1 : Int), v3 = .string x3_1 ∧ v4 = .int .i64 x4_1 ∧ Aside0 (bC_.l0 kq l0 x3_1 x4_1 = some r) ∧ Aside0 (kq ≤ k) ∧ Aside0 (Below w.heap.size w w'))
  case atStart => exact ⟨((⟨#[]⟩ : ByteArray)), (0), (by first | rfl | (simp; done) | (simp [*]; done)), (by first | rfl | (simp; done) | (simp [*]; done)), H', ⟨Nat.le_refl _⟩, ⟨bz HB.out⟩⟩
  case round =>
   clear H'
   obtain ⟨x3_1, x4_1, rfl, rfl, HA, HK1, HB⟩ := hrel
   cases gk with
   | zero => exact absurd HA.out (by simp [bC_.l0])
   | succ k1 =>
    have H := HA.out
    clear HA
    simp only [bC_.l0] at H
    by_cases c3 : x4_1 < (l0.length : Int)
    rotate_left
    ·rw [if_neg c3] at H
     have c3b0 : decide (x4_1 < (l0.length : Int)) = false := decide_eq_false c3
     clear c3
     obtain rfl := Option.some.inj H
     go_wp2
     go_ret
     exact ⟨by first | rfl | (simp [*, aw_, av_] <;> rfl), bz HB.out⟩
    rw [if_pos c3] at H
    have c3b0 : decide (x4_1 < (l0.length : Int)) = true := decide_eq_true c3
    clear c3
    by_cases c4 : x4_1 > 0
    rotate_left
    ·rw [if_neg c4] at H
     have c4b0 : decide (0 < x4_1) = false := decide_eq_false c4
     clear c4
     by_cases c10 : 0 ≤ x4_1
     rotate_left
     ·rw [if_neg c10] at H
      exact absurd H (by simp)
     rw [if_pos c10] at H
     have c10b0 : decide (0 ≤ x4_1) = true := decide_eq_true c10
     clear c10
     replace H := Option.bind_eq_some_iff.mp H
     obtain ⟨t104, A110, H⟩ := H
     (try dsimp only at H)
     have A11 := Aside0.mk A110
     clear A110
     by_cases c12 : x3_1.size + t104.size ≤ 9223372036854775807
     rotate_left
     ·rw [if_neg c12] at H
      exact absurd H (by simp)
     rw [if_pos c12] at H
     have c12b0 := eq_true c12
     have c12b1 : decide (x3_1.size + t104.size ≤ 9223372036854775807) = true := decide_eq_true c12
     try have c12b2 : (9223372036854775807 < x3_1.size + t104.size) = False := eq_false (Nat.not_lt.2 c12)
     have H' := Aside0.mk H
     clear H
     have p103 : 0 ≤ (x4_1 : Int) := of_decide_eq_true (by assumption)
     have q103 : x4_1 < (l0.length : Int) := of_decide_eq_true (by assumption)
     obtain ⟨ad103, e103, hx103_0⟩ := Kd.at_int HR0.out x4_1 p103 q103
     cases e103
     replace hx103_0 := bu_ HB.out hx103_0
     replace p103 := eq_true p103
     replace q103 := eq_true q103
     go_wp2_with (first | ((with_reducible refine al_ (f := 68) rfl ?_); refine bf_ (some 23) rfl rfl Tryd.func68 (by kernel_rfl) rfl #[.int .i64 (rd l0 x4_1)] rfl (by first | rfl | (simp only [lma_, lmc_, lmn_]; first | done | rfl)) ?_; (with_reducible refine (au_.calls k1 (rd l0 x4_1) t104 _ A11.out).mono ?_); rintro e w13 ⟨rfl, hb⟩; refine ⟨_, rfl, ?_⟩; replace HB := Aside0.mk (ah_ (bz HB.out) hb); (try clear hb)))
     go_roundg k1
     case measure => have := HK1.out; omega
     case rel => exact ⟨(x3_1 ++ t104), (wrap64 (x4_1 + 1)), (by first | rfl | (simp; done) | (simp [*]; done)), (by first | rfl | (simp; done) | (simp [*]; done)), H', ⟨by have := HK1.out; omega⟩, ⟨bz HB.out⟩⟩
    rw [if_pos c4] at H
    have c4b0 : decide (0 < x4_1) = true := decide_eq_true c4
    clear c4
    by_cases c5 : x3_1.size + 1 ≤ 9223372036854775807
    rotate_left
    ·rw [if_neg c5] at H
     exact absurd H (by simp)
    rw [if_pos c5] at H
    have c5b0 := eq_true c5
    have c5b1 : decide (x3_1.size + 1 ≤ 9223372036854775807) = true := decide_eq_true c5
    try have c5b2 : (9223372036854775807 < x3_1.size + 1) = False := eq_false (Nat.not_lt.2 c5)
    by_cases c6 : 0 ≤ x4_1
    rotate_left
    ·rw [if_neg c6] at H
     exact absurd H (by simp)
    rw [if_pos c6] at H
    have c6b0 : decide (0 ≤ x4_1) = true := decide_eq_true c6
    clear c6
    replace H := Option.bind_eq_some_iff.mp H
    obtain ⟨t102, A70, H⟩ := H
    (try dsimp only at H)
    have A7 := Aside0.mk A70
    clear A70
    by_cases c8 : x3_1.size + 1 + t102.size ≤ 9223372036854775807
    rotate_left
    ·rw [if_neg c8] at H
     exact absurd H (by simp)
    rw [if_pos c8] at H
    have c8b0 := eq_true c8
    have c8b1 : decide (x3_1.size + 1 + t102.size ≤ 9223372036854775807) = true := decide_eq_true c8
    try have c8b2 : (9223372036854775807 < x3_1.size + 1 + t102.size) = False := eq_false (Nat.not_lt.2 c8)
    have H' := Aside0.mk H
    clear H
    have p101 : 0 ≤ (x4_1 : Int) := of_decide_eq_true (by assumption)
    have q101 : x4_1 < (l0.length : Int) := of_decide_eq_true (by assumption)
    obtain ⟨ad101, e101, hx101_0⟩ := Kd.at_int HR0.out x4_1 p101 q101
    cases e101
    replace hx101_0 := bu_ HB.out hx101_0
    replace p101 := eq_true p101
    replace q101 := eq_true q101
    go_wp2_with (first | ((with_reducible refine al_ (f := 68) rfl ?_); refine bf_ (some 23) rfl rfl Tryd.func68 (by kernel_rfl) rfl #[.int .i64 (rd l0 x4_1)] rfl (by first | rfl | (simp only [lma_, lmc_, lmn_]; first | done | rfl)) ?_; (with_reducible refine (au_.calls k1 (rd l0 x4_1) t102 _ A7.out).mono ?_); rintro e w9 ⟨rfl, hb⟩; refine ⟨_, rfl, ?_⟩; replace HB := Aside0.mk (ah_ (bz HB.out) hb); (try clear hb)))
    go_roundg k1
    case measure => have := HK1.out; omega
    case rel => exact ⟨((x3_1 ++ (⟨#[44]⟩ : ByteArray)) ++ t102), (wrap64 (x4_1 + 1)), (by first | rfl | (simp; done) | (simp [*]; done)), (by first | rfl | (simp; done) | (simp [*]; done)), H', ⟨by have := HK1.out; omega⟩, ⟨bz HB.out⟩⟩
 rw [if_pos c2] at H
 have c2b0 : ((l0.length : Int) == 0) = true := beq_iff_eq.mpr c2
 have c2b1 : ((l0.length : Int) != 0) = false := bne_eq_false_iff_eq.mpr c2
 clear c2
 obtain rfl := Option.some.inj H
 go_enter Tryd.func100, Tryd.ntmps100
 go_wp2
 go_ret
 exact ⟨by first | rfl | (simp [*, aw_, av_] <;> rfl), bz HB.out⟩
end Go.Proofs.YtjebkmfljcanlaaDoor.Q
