/- For all drawn features: distances are symmetric and satisfy the inequality of triangles, and the ranked features begin with the nearest one (FnFeatures). Conditions: none beyond the statement. This text holds the functions' walks and the words for them. -/
import Derived.Test.YteafahnopgmgoaaKFnFeaturesa
set_option linter.unusedVariables false
set_option linter.unusedSimpArgs false
namespace Go.Proofs.Yteafahnopgmgoaa.Q
open Go.RowKit Go.Proofs.YteafahnopgmgoaaW.PrintWords Go.Proofs.YteafahnopgmgoaaW.PrintLast Go.Proofs.YteafahnopgmgoaaW.PrintMore
attribute [local go_sem] aY_ aW_ br_ bq_ aR_ aQ_ aZ_ aX_
def bc_.f (s0_0 : List Int) (s0_1 : Int) (s0_2 : Int) (l1 : List Int) : Option (Int × Int × Int) := (aT_.f s0_0 s0_1 s0_2 (l1.length : Int)).bind fun bt101 => (if 0 ≤ bt101.1 then (if bt101.1 < (l1.length : Int) then (some (rd l1 bt101.1, bt101.2.1, bt101.2.2)) else (none)) else (none))
set_option maxHeartbeats 8000000 in
set_option maxRecDepth 100000 in
theorem bc_.calls (g : Nat) (s0_0 : List Int) (s0_1 : Int) (s0_2 : Int) (A1 : Option Addr) (c1 : Nat) (l1 : List Int) (r1 : Int) (r2 : Int) (r3 : Int) (w0 w : World) (hI : aa_ w0 w g s0_0 s0_1 s0_2) (hB : Below w0.heap.size w0 w) (hr1 : Kd.C (Kd.int .i64) w A1 l1.length l1) (hc1 : l1.length ≤ c1) (hf1 : ∀ ad, A1 = some ad → 0 < l1.length → ad.block ≠ g) (h : bc_.f s0_0 s0_1 s0_2 l1 = some (r1, r2, r3)) :
  Calls Try.prog 93 #[.pointer (some ⟨g, 0, none⟩), .slice A1 l1.length c1] w fun e w' => e = .returned (.int .i64 r1) ∧ aa_ w0 w' g s0_0 r2 r3 ∧ Below w0.heap.size w0 w' ∧ ae_ w w' g none := by
 have HR1 := Aside0.mk hr1
 have HC1 := Aside0.mk hc1
 clear hr1 hc1
 have HI0 := Aside0.mk hI
 have HK := Aside0.mk (ae_.refl w g none)
 have HL := Aside0.mk hB.size
 clear hI
 have HW0 := Aside0.mk hB.size
 have HB := Aside0.mk hB
 clear hB
 have H : ((aT_.f s0_0 s0_1 s0_2 (l1.length : Int)).bind fun bt101 => (if 0 ≤ bt101.1 then (if bt101.1 < (l1.length : Int) then (some (rd l1 bt101.1, bt101.2.1, bt101.2.2)) else (none)) else (none))) = some (r1, r2, r3) := h
 clear h
 replace H := Option.bind_eq_some_iff.mp H
 obtain ⟨⟨t101, t102, t103⟩, A30, H⟩ := H
 (try dsimp only at H)
 have A3 := Aside0.mk A30
 clear A30
 by_cases c4 : 0 ≤ t101
 rotate_left
 ·rw [if_neg c4] at H
  exact absurd H (by simp)
 rw [if_pos c4] at H
 have c4b0 : decide (0 ≤ t101) = true := decide_eq_true c4
 clear c4
 by_cases c5 : t101 < (l1.length : Int)
 rotate_left
 ·rw [if_neg c5] at H
  exact absurd H (by simp)
 rw [if_pos c5] at H
 have c5b0 : decide (t101 < (l1.length : Int)) = true := decide_eq_true c5
 clear c5
 simp only [Option.some.injEq, Prod.mk.injEq] at H
 obtain ⟨rfl, rfl, rfl⟩ := H
 go_enter Try.func93, Try.ntmps93
 go_wp2_with (first | ((with_reducible refine av_ (f := 92) rfl ?_); refine bo_ (some 9) rfl rfl Try.func92 (by kernel_rfl) rfl #[.pointer (some ⟨g, 0, none⟩), .int .i64 (l1.length : Int)] rfl (by first | rfl | (simp only [lma_, lmc_, lmn_]; first | done | rfl)) ?_; (with_reducible refine (aT_.calls g s0_0 s0_1 s0_2 (l1.length : Int) t101 t102 t103 w0 _ ?side1 ?side2 A3.out).mono ?_); (case side1 => repeat (first | (with_reducible first | exact HI0.out | apply aa_.alloc | apply aa_.drewN | apply aa_.drew | apply aa_.set_1 | apply aa_.set_2) | exact HI0.out)); (case side2 => repeat (first | (with_reducible first | exact HB.out | apply bA_ | apply bN_ | apply bD_ | refine ad_ ?_ (aa_.ge HI0.out)) | exact HB.out)); rintro e w6 ⟨rfl, hi, hb, hk⟩; refine ⟨_, rfl, ?_⟩; replace HK := Aside0.mk (ae_.trans (by repeat (first | (with_reducible first | exact HK.out | apply ae_.set_ | apply ah_ | apply ao_ | apply ai_) | exact HK.out)) hk (.inl rfl)); replace HB := Aside0.mk (hb); replace HI0 := Aside0.mk (hi); (try clear hb); have p104 : 0 ≤ (t101 : Int) := of_decide_eq_true (by assumption); have q104 : t101 < (l1.length : Int) := of_decide_eq_true (by assumption); obtain ⟨ad104, e104, hx104_0⟩ := Kd.bL_ HR1.out t101 p104 q104; cases e104; replace hx104_0 := keep_cell HK.out hx104_0 (by first | (rw [add_block]; exact hf1 _ rfl (by omega)) | exact hf1 _ rfl (by omega) | exact hf1 ad104 rfl (by omega)); replace p104 := eq_true p104; replace q104 := eq_true q104))
 go_ret
 exact ⟨by first | rfl | (simp [*, aH_, aG_] <;> rfl), by repeat (first | (with_reducible first | exact HI0.out | apply aa_.alloc | apply aa_.drewN | apply aa_.drew | apply aa_.set_1 | apply aa_.set_2) | exact HI0.out), by repeat (first | (with_reducible first | exact HB.out | apply bA_ | apply bN_ | apply bD_ | refine ad_ ?_ (aa_.ge HI0.out)) | exact HB.out), by repeat (first | (with_reducible first | exact HK.out | apply ae_.set_ | apply ah_ | apply ao_ | apply ai_) | exact HK.out)⟩
def aL_.l0 : Nat → Int → List Int → Int → Int → ByteArray → List Int → Option (ByteArray × List Int × Int × Int)
 | 0, _, _, _, _, _, _ => none
 | k + 1, x6, x1000, x1001, x1002, x103000, x103001 => if x6 < 6 then ((bc_.f x1000 x1001 x1002 (([0, 10, 50, 100, 255, 20, 30, 12] : List Int))).bind fun bt106 => (if x103001.length < 17592186044416 then (aL_.l0 k (wrap64 (x6 + 1)) x1000 bt106.2.1 bt106.2.2 x103000 (x103001 ++ [bt106.1])) else (none))) else (some (x103000, x103001, x1001, x1002))
def aL_.f (k : Nat) (s0_0 : List Int) (s0_1 : Int) (s0_2 : Int) (a1 : ByteArray) : Option (ByteArray × List Int × Int × Int) := aL_.l0 k 0 s0_0 s0_1 s0_2 a1 ([] : List Int)
def aL_.T5 : Bool × List (List Nat × List Nat) := (true, [([], []), ([0], [0]), ([], []), ([], []), ([2, 3], [2, 3]), ([4], [4]), ([1, 5, 4], [1, 5]), ([0, 1, 2, 3, 4, 5, 6], []), ([7, 6, 6, 0, 1, 2, 3, 4, 5, 6], [6, 7])])
def aL_.B5 : List Nat := [0, 1, 0, 0, 12, 28, 63, 127, 255]
theorem aL_.tab5 : rtab .any (opsOf Try.f90 5) = aL_.T5 := by kernel_rfl
theorem aL_.bits5 : cy_ aL_.T5.2 aL_.B5 = true := by kernel_rfl
set_option maxHeartbeats 8000000 in
set_option maxRecDepth 100000 in
theorem aL_.calls (k : Nat) (g : Nat) (s0_0 : List Int) (s0_1 : Int) (s0_2 : Int) (a1 : ByteArray) (r1 : ByteArray) (r2 : List Int) (r3 : Int) (r4 : Int) (w0 w : World) (hI : aa_ w0 w g s0_0 s0_1 s0_2) (hB : Below w0.heap.size w0 w) (h : aL_.f k s0_0 s0_1 s0_2 a1 = some (r1, r2, r3, r4)) :
  Calls Try.prog 90 #[.pointer (some ⟨g, 0, none⟩), .string a1] w fun e w' => ∃ v1_ : Value, e = .returned (.agg #[.string r1, v1_]) ∧ Kd.R (Kd.int .i64) 2 w' w.heap.size (fun _ => True) v1_ r2 ∧ aa_ w0 w' g s0_0 r3 r4 ∧ Below w0.heap.size w0 w' ∧ ae_ w w' g none := by
 have hu28 := Try.underlying28
 have HI0 := Aside0.mk hI
 have HK := Aside0.mk (ae_.refl w g none)
 have HL := Aside0.mk hB.size
 clear hI
 have HW0 := Aside0.mk hB.size
 have HB := Aside0.mk hB
 clear hB
 have H : (aL_.l0 k 0 s0_0 s0_1 s0_2 a1 ([] : List Int)) = some (r1, r2, r3, r4) := h
 clear h
 have H' := Aside0.mk H
 clear H
 go_enter Try.func90, Try.ntmps90
 go_wp2_with (first | ((with_reducible refine bg_ (N := 4) rfl ?_); refine bt_ ?hg (N := 4) ?hd (cs := #[.string (⟨#[]⟩ : ByteArray), .slice none 0 0]) (t := 28) ?hr ?_; (case hd => rfl); (case hg => rfl); (case hr => (go_simp; try rfl)); intro gb101 hg w3 hbox hb; replace HB := Aside0.mk (am_ (by repeat (first | (with_reducible first | exact HB.out | apply bA_ | apply bN_ | apply bD_ | refine ad_ ?_ (aa_.ge HI0.out)) | exact HB.out)) hb); have BK101 := Aside0.mk (hbox); have GW101 := Aside0.mk ((by rw [hg]; exact (be_ (w := w) (g := g) (row := none) (by repeat (first | (with_reducible first | exact HK.out | apply ae_.set_ | apply ah_ | apply ao_ | apply ai_) | exact HK.out))) : w.heap.size ≤ gb101)); have GE101 := Aside0.mk ((Nat.le_trans HW0.out (by rw [hg]; exact (be_ (w := w) (g := g) (row := none) (by repeat (first | (with_reducible first | exact HK.out | apply ae_.set_ | apply ah_ | apply ao_ | apply ai_) | exact HK.out))) : w.heap.size ≤ gb101) : w0.heap.size ≤ gb101)); replace HK := Aside0.mk (ae_.trans (by repeat (first | (with_reducible first | exact HK.out | apply ae_.set_ | apply ah_ | apply ao_ | apply ai_) | exact HK.out)) (ae_.of_below hb g none) (.inl rfl)); have NB0_101 := Aside0.mk ((by rw [hg]; exact Nat.ne_of_lt (aa_.lt (show aa_ w0 _ g s0_0 s0_1 s0_2 from by repeat (first | (with_reducible first | exact HI0.out | apply aa_.alloc | apply aa_.drewN | apply aa_.drew | apply aa_.set_1 | apply aa_.set_2) | exact HI0.out))) : g ≠ gb101)); have NB101_0 := Aside0.mk ((by rw [hg]; exact Nat.ne_of_gt (aa_.lt (show aa_ w0 _ g s0_0 s0_1 s0_2 from by repeat (first | (with_reducible first | exact HI0.out | apply aa_.alloc | apply aa_.drewN | apply aa_.drew | apply aa_.set_1 | apply aa_.set_2) | exact HI0.out))) : gb101 ≠ g)); replace HI0 := Aside0.mk (aa_.below (by repeat (first | (with_reducible first | exact HI0.out | apply aa_.alloc | apply aa_.drewN | apply aa_.drew | apply aa_.set_1 | apply aa_.set_2) | exact HI0.out)) hb); clear hb hbox hg) | ((with_reducible refine bg_ (N := 5) rfl ?_); refine bt_ ?hg (N := 5) ?hd (cs := #[.string (⟨#[]⟩ : ByteArray), .slice none 0 0]) (t := 28) ?hr ?_; (case hd => rfl); (case hg => rfl); (case hr => (go_simp; try rfl)); intro gb102 hg w4 hbox hb; replace HB := Aside0.mk (am_ (by repeat (first | (with_reducible first | exact HB.out | apply bA_ | apply bN_ | apply bD_ | refine ad_ ?_ (aa_.ge HI0.out) | refine ad_ ?_ GE101.out) | exact HB.out)) hb); have BK102 := Aside0.mk (hbox); have GW102 := Aside0.mk ((by rw [hg]; exact (be_ (w := w) (g := g) (row := none) (by repeat (first | (with_reducible first | exact HK.out | apply ae_.set_ | apply ah_ | apply ao_ | apply ai_ | refine aS_ ?_ GW101.out _) | exact HK.out))) : w.heap.size ≤ gb102)); have GE102 := Aside0.mk ((Nat.le_trans HW0.out (by rw [hg]; exact (be_ (w := w) (g := g) (row := none) (by repeat (first | (with_reducible first | exact HK.out | apply ae_.set_ | apply ah_ | apply ao_ | apply ai_ | refine aS_ ?_ GW101.out _) | exact HK.out))) : w.heap.size ≤ gb102) : w0.heap.size ≤ gb102)); replace HK := Aside0.mk (ae_.trans (by repeat (first | (with_reducible first | exact HK.out | apply ae_.set_ | apply ah_ | apply ao_ | apply ai_ | refine aS_ ?_ GW101.out _) | exact HK.out)) (ae_.of_below hb g none) (.inl rfl)); have NB101_102 := Aside0.mk ((by rw [hg]; exact Nat.ne_of_lt (bX_ (kz BK101.out)) : gb101 ≠ gb102)); have NB102_101 := Aside0.mk ((by rw [hg]; exact Nat.ne_of_gt (bX_ (kz BK101.out)) : gb102 ≠ gb101)); replace BK101 := Aside0.mk (ag_ (kz BK101.out) hb); have NB0_102 := Aside0.mk ((by rw [hg]; exact Nat.ne_of_lt (aa_.lt (show aa_ w0 _ g s0_0 s0_1 s0_2 from by repeat (first | (with_reducible first | exact HI0.out | apply aa_.alloc | apply aa_.drewN | apply aa_.drew | apply aa_.set_1 | apply aa_.set_2 | refine aa_.far ?_ NB0_101.out _) | exact HI0.out))) : g ≠ gb102)); have NB102_0 := Aside0.mk ((by rw [hg]; exact Nat.ne_of_gt (aa_.lt (show aa_ w0 _ g s0_0 s0_1 s0_2 from by repeat (first | (with_reducible first | exact HI0.out | apply aa_.alloc | apply aa_.drewN | apply aa_.drew | apply aa_.set_1 | apply aa_.set_2 | refine aa_.far ?_ NB0_101.out _) | exact HI0.out))) : gb102 ≠ g)); replace HI0 := Aside0.mk (aa_.below (by repeat (first | (with_reducible first | exact HI0.out | apply aa_.alloc | apply aa_.drewN | apply aa_.drew | apply aa_.set_1 | apply aa_.set_2 | refine aa_.far ?_ NB0_101.out _) | exact HI0.out)) hb); clear hb hbox hg; have hnb5 := NB102_101.out; have hnc5 := NB101_102.out; have hnb6 := NB102_0.out; have hnc6 := NB0_102.out; obtain ⟨hcz7_0, hcz7_1⟩ := cz2_ BK102.out; obtain ⟨hfz7_0, hfz7_1⟩ := fz2_ BK102.out))
 (try simp only [Act.put, lsa_, ls0_, ls1_])
 go_loopg [6] k (fun kq v6 w' => ∃ (x6_1 : Int) (x1001_1 : Int) (x1002_1 : Int) (x103001_1 : List Int) (u103001 : Value), v6 = .int .i64 x6_1 ∧ Aside0 (aL_.l0 kq x6_1 s0_0 x1001_1 x1002_1 a1 x103001_1 = some (r1, r2, r3, r4)) ∧ Aside0 (kq ≤ k) ∧ Aside0 (Kd.R (Kd.int .i64) 2 w' w.heap.size (fun _ => True) u103001 x103001_1) ∧ Aside0 (w'.heap[gb101]? = some (.cells #[.string (⟨#[]⟩ : ByteArray), (.slice none 0 0)] 28 (0, 0))) ∧ Aside0 (w'.heap[gb102]? = some (.cells #[.string a1, u103001] 28 (0, 0))) ∧ Aside0 (aa_ w0 w' g s0_0 x1001_1 x1002_1) ∧ Aside0 (ae_ w w' g none) ∧ Aside0 (Below w0.heap.size w0 w'))
 case atStart => exact ⟨(0), (s0_1), (s0_2), (([] : List Int)), (.slice none 0 0), (by first | rfl | (simp; done) | (simp [*]; done)), H', ⟨Nat.le_refl _⟩, ⟨by first | exact Kd.R_nil _ _ _ _ _ | exact Kd.N_nil _ _ _ _ _ | exact Kd.V_nil _ _ _ _ _ | exact Kd.Q_nil _ _ _ _ _ | exact Kd.S_nil _ _ _ _ _⟩, ⟨by exact kf (kf (kz BK101.out) NB101_102.out) NB101_102.out⟩, ⟨by exact kj2_1 (kj2_0 (kz BK102.out))⟩, ⟨by repeat (first | (with_reducible first | exact HI0.out | apply aa_.alloc | apply aa_.drewN | apply aa_.drew | apply aa_.set_1 | apply aa_.set_2 | refine aa_.far ?_ NB0_101.out _ | refine aa_.far ?_ NB0_102.out _) | exact HI0.out)⟩, ⟨by repeat (first | (with_reducible first | exact HK.out | apply ae_.set_ | apply ah_ | apply ao_ | apply ai_ | refine aS_ ?_ GW101.out _ | refine aS_ ?_ GW102.out _) | exact HK.out)⟩, ⟨by repeat (first | (with_reducible first | exact HB.out | apply bA_ | apply bN_ | apply bD_ | refine ad_ ?_ (aa_.ge HI0.out) | refine ad_ ?_ GE101.out | refine ad_ ?_ GE102.out) | exact HB.out)⟩⟩
 case round =>
  clear H'
  obtain ⟨x6_1, x1001_1, x1002_1, x103001_1, u103001, rfl, HA, HK1, HO_103001, BK101, BK102, HI0, HK, HB⟩ := hrel
  cases gk with
  | zero => exact absurd HA.out (by simp [aL_.l0])
  | succ k1 =>
   have H := HA.out
   clear HA
   simp only [aL_.l0] at H
   by_cases c8 : x6_1 < 6
   rotate_left
   ·rw [if_neg c8] at H
    have c8b0 : decide (x6_1 < 6) = false := decide_eq_false c8
    clear c8
    simp only [Option.some.injEq, Prod.mk.injEq] at H
    obtain ⟨rfl, rfl, rfl, rfl⟩ := H
    have hnb19 := NB102_101.out
    have hnc19 := NB101_102.out
    have hnb20 := NB102_0.out
    have hnc20 := NB0_102.out
    obtain ⟨hcz21_0, hcz21_1⟩ := cz2_ BK102.out
    obtain ⟨hfz21_0, hfz21_1⟩ := fz2_ BK102.out
    have hnb22 := NB101_0.out
    have hnc22 := NB0_101.out
    obtain ⟨hcz23_0, hcz23_1⟩ := cz2_ BK101.out
    obtain ⟨hfz23_0, hfz23_1⟩ := fz2_ BK101.out
    obtain ⟨Ao24, co24, eo24⟩ := Kd.bP_ HO_103001.out
    subst eo24
    go_wp2
    refine bodyPost_ret (results_cell_row rfl _ _ gb101 28 #[.string a1, .slice Ao24 x103001_1.length co24] (0, 0) _ rfl (by exact kj2_1 (kj2_0 (kz BK101.out))) Try.underlying28 rfl (by kernel_rfl)) rfl ?_
    exact ⟨_, by first | rfl | (simp [*, aH_, aG_] <;> rfl), rz (Kd.bp_ (Kd.R_far (p := ⟨gb101, 1, none⟩) (Kd.R_far (p := ⟨gb101, 0, none⟩) (Kd.cx_ HO_103001.out BK101.out (by decide)) (fun _ hk => hk.2) (.string a1)) (fun _ hk => hk.2) (.slice Ao24 x103001_1.length co24)) (fun _ hk => trivial)), by repeat (first | (with_reducible first | exact HI0.out | apply aa_.alloc | apply aa_.drewN | apply aa_.drew | apply aa_.set_1 | apply aa_.set_2 | refine aa_.far ?_ NB0_101.out _ | refine aa_.far ?_ NB0_102.out _) | exact HI0.out), by repeat (first | (with_reducible first | exact HB.out | apply bA_ | apply bN_ | apply bD_ | refine ad_ ?_ (aa_.ge HI0.out) | refine ad_ ?_ GE101.out | refine ad_ ?_ GE102.out) | exact HB.out), by repeat (first | (with_reducible first | exact HK.out | apply ae_.set_ | apply ah_ | apply ao_ | apply ai_ | refine aS_ ?_ GW101.out _ | refine aS_ ?_ GW102.out _) | exact HK.out)⟩
   rw [if_pos c8] at H
   have c8b0 : decide (x6_1 < 6) = true := decide_eq_true c8
   clear c8
   obtain ⟨y103, hy103⟩ : ∃ y_ : List Int, y_ = (([0, 10, 50, 100, 255, 20, 30, 12] : List Int)) := ⟨_, rfl⟩
   replace H : ((bc_.f s0_0 x1001_1 x1002_1 y103).bind fun bt106 => (if x103001_1.length < 17592186044416 then (aL_.l0 k1 (wrap64 (x6_1 + 1)) s0_0 bt106.2.1 bt106.2.2 a1 (x103001_1 ++ [bt106.1])) else (none))) = some (r1, r2, r3, r4) := by first | (rw [hy103]; with_reducible exact H) | (have H2_ := (Option.bind_some _ _).symm.trans H; rw [hy103]; with_reducible exact H2_) | (have H2_ := (Option.bind_some _ _).symm.trans H; with_reducible exact H2_) | with_reducible exact H | (rw [hy103]; exact H) | exact H
   have Ny103 := Aside0.mk hy103
   clear hy103
   replace H := Option.bind_eq_some_iff.mp H
   obtain ⟨⟨t106, t107, t108⟩, A90, H⟩ := H
   (try dsimp only at H)
   have A9 := Aside0.mk A90
   clear A90
   by_cases c10 : x103001_1.length < 17592186044416
   rotate_left
   ·rw [if_neg c10] at H
    exact absurd H (by simp)
   rw [if_pos c10] at H
   have LMc10 := Aside0.mk c10
   clear c10
   obtain ⟨y109, hy109⟩ : ∃ y_ : List Int, y_ = (x103001_1 ++ [t106]) := ⟨_, rfl⟩
   replace H : (aL_.l0 k1 (wrap64 (x6_1 + 1)) s0_0 t107 t108 a1 y109) = some (r1, r2, r3, r4) := by first | (rw [hy109]; with_reducible exact H) | (have H2_ := (Option.bind_some _ _).symm.trans H; rw [hy109]; with_reducible exact H2_) | (have H2_ := (Option.bind_some _ _).symm.trans H; with_reducible exact H2_) | with_reducible exact H | (rw [hy109]; exact H) | exact H
   have Ny109 := Aside0.mk hy109
   clear hy109
   have H' := Aside0.mk H
   clear H
   try go_wp2
   have n0_ := Aside0.mk (Kd.cu_ HO_103001.out)
   have n1_ := Aside0.mk (ay_ BK101.out)
   have n2_ := Aside0.mk (ay_ BK102.out)
   have n3_ := Aside0.mk (aa_.drew HI0.out)
   have n4_ := Aside0.mk (ao_ HK.out)
   have n5_ := Aside0.mk (bD_ HB.out)
   clear HO_103001
   clear BK101
   clear BK102
   clear HI0
   clear HK
   clear HB
   have HO_103001 := n0_
   have BK101 := n1_
   have BK102 := n2_
   have HI0 := n3_
   have HK := n4_
   have HB := n5_
   clear n0_ n1_ n2_ n3_ n4_ n5_
   refine cv_ (n := 9) (S := fun w' => w'.cell? ⟨gb102, 0, none⟩ = some (.string a1) ∧ w'.cell? ⟨gb102, 1, none⟩ = some (u103001)) (ds := [8]) #[f_,f_,f_,f_,f_,f_,f_,f_,f_] (by kernel_rfl) rfl rfl ⟨(aM_ BK102.out 0).trans rfl, (aM_ BK102.out 1).trans rfl⟩ (fun hHeld => ?_); refine bT_ aL_.tab5 aL_.bits5 (fun HT_ HW_ => ?_)
   generalize wr.drew = w11 at HO_103001 BK101 BK102 HI0 HK HB hHeld ⊢
   refine pu 0 13 #[t_,f_,f_,f_,f_,f_,f_,f_,f_] HT_ ?_
   refine pu 2 15 #[t_,f_,t_,f_,f_,f_,f_,f_,f_] HT_ ?_
   refine tk 1 14 #[t_,t_,t_,f_,f_,f_,f_,f_,f_] HT_ HW_ hHeld ?_ (hv := by rintro w' ⟨s0, s1⟩; go_simp; with_reducible rfl)
   refine one_ (i := 3) (N := some 16) #[t_,t_,t_,t_,f_,f_,f_,f_,f_] rfl rfl (cs_ HT_.out (by kernel_rfl)) (by decide) (fun K hK => ?_)
   refine Kd.R_lit_step (Kd.int .i64) _ 2 ?hg (N := 16) ?hd (xs := ([0, 10, 50, 100, 255, 20, 30, 12] : List Int)) (inner := [.int .i64 0, .int .i64 10, .int .i64 50, .int .i64 100, .int .i64 255, .int .i64 20, .int .i64 30, .int .i64 12]) (ok := fun _ => True) (okp := fun _ => True) ?hr ?hp (fun _ hk => hk) trivial (Below.refl _ _) (Nat.le_refl _) (by simp) ?_; (case hd => rfl); (case hg => rfl); (case hr => (go_simp; try rfl)); (case hp => exact (Reps.one (show Kd.M (Kd.int .i64) _ _ _ 0 [.int .i64 0] from rfl) (Reps.one (show Kd.M (Kd.int .i64) _ _ _ 10 [.int .i64 10] from rfl) (Reps.one (show Kd.M (Kd.int .i64) _ _ _ 50 [.int .i64 50] from rfl) (Reps.one (show Kd.M (Kd.int .i64) _ _ _ 100 [.int .i64 100] from rfl) (Reps.one (show Kd.M (Kd.int .i64) _ _ _ 255 [.int .i64 255] from rfl) (Reps.one (show Kd.M (Kd.int .i64) _ _ _ 20 [.int .i64 20] from rfl) (Reps.one (show Kd.M (Kd.int .i64) _ _ _ 30 [.int .i64 30] from rfl) (Reps.one (show Kd.M (Kd.int .i64) _ _ _ 12 [.int .i64 12] from rfl) (Reps.none _ _))))))))))
   intro v104 w12 ho13 hb hg_ hnew_
   clear hg_ hnew_
   (first | rw [← Ny103.out] at ho13 | (simp only [Int.reduceToNat] at ho13; rw [← Ny103.out] at ho13))
   have n0_ := Aside0.mk (Kd.cA_ (rz HO_103001.out) (Kd.cr_ ho13) hb)
   have n1_ := Aside0.mk (Kd.bM_ (Kd.R_new' ho13 (Kd.R_lt (rz HO_103001.out))) (be_ (w := w) (g := g) (row := none) (by repeat (first | (with_reducible first | exact HK.out | apply ae_.set_ | apply ah_ | apply ao_ | apply ai_ | refine aS_ ?_ GW101.out _ | refine aS_ ?_ GW102.out _) | exact HK.out))))
   have n2_ := Aside0.mk (ag_ (kz BK101.out) hb)
   have n3_ := Aside0.mk (ag_ (kz BK102.out) hb)
   have n4_ := Aside0.mk (aa_.below (by repeat (first | (with_reducible first | exact HI0.out | apply aa_.alloc | apply aa_.drewN | apply aa_.drew | apply aa_.set_1 | apply aa_.set_2 | refine aa_.far ?_ NB0_101.out _ | refine aa_.far ?_ NB0_102.out _) | exact HI0.out)) hb)
   have n5_ := Aside0.mk (ae_.trans (by repeat (first | (with_reducible first | exact HK.out | apply ae_.set_ | apply ah_ | apply ao_ | apply ai_ | refine aS_ ?_ GW101.out _ | refine aS_ ?_ GW102.out _) | exact HK.out)) (ae_.of_below hb g none) (.inl rfl))
   have n6_ := Aside0.mk (am_ (by repeat (first | (with_reducible first | exact HB.out | apply bA_ | apply bN_ | apply bD_ | refine ad_ ?_ (aa_.ge HI0.out) | refine ad_ ?_ GE101.out | refine ad_ ?_ GE102.out) | exact HB.out)) hb)
   clear HO_103001
   clear BK101
   clear BK102
   clear HI0
   clear HK
   clear HB
   have HO_103001 := n0_
   have HO105 := n1_
   have BK101 := n2_
   have BK102 := n3_
   have HI0 := n4_
   have HK := n5_
   have HB := n6_
   clear n0_ n1_ n2_ n3_ n4_ n5_ n6_
   clear hb ho13
   obtain ⟨Ao14, co14, eo14⟩ := Kd.bP_ HO105.out
   (first | subst eo14 | (injection eo14 with f1_ f2_ f3_; have f4_ := f1_.symm; have f5_ := f3_.symm; clear f1_ f2_ f3_; subst f4_; subst f5_))
   refine hK.out _ _ ⟨(aM_ BK102.out 0).trans rfl, (aM_ BK102.out 1).trans rfl⟩ (fun hHeld => ?_)
   clear hK K
   refine norm_ (a' := ?_) ?_ ?_
   rotate_left
   ·show Act.put _ (some 16) _ = _
    simp only [Act.put, lsa_, ls0_, ls1_, i64_w, i32_w]
    rfl
   refine one_ (i := 4) (N := some 17) #[t_,t_,t_,t_,t_,f_,f_,f_,f_] rfl rfl (cs_ HT_.out (by kernel_rfl)) (by decide) (fun K hK => ?_)
   (first | refine goes_ Try.func93 (by kernel_rfl) rfl #[.pointer (some ⟨g, 0, none⟩), .slice Ao14 y103.length co14] (by rfl) rfl rfl (by first | rfl | (simp only [lma_, lmc_, lmn_]; first | done | rfl)) ?_ | refine RPW.cC_ Try.func93 (by kernel_rfl) rfl #[.pointer (some ⟨g, 0, none⟩), .slice Ao14 y103.length co14] (by rfl) rfl rfl rfl (by first | rfl | (simp only [lma_, lmc_, lmn_]; first | done | rfl)) ?_ | refine RPW.cB_ Try.func93 (by kernel_rfl) rfl #[.pointer (some ⟨g, 0, none⟩), .slice Ao14 y103.length co14] (by rfl) rfl rfl rfl (by first | rfl | (simp only [lma_, lmc_, lmn_]; first | done | rfl)) ?_)
   with_reducible refine (bc_.calls g s0_0 x1001_1 x1002_1 _ _ y103 t106 t107 t108 w0 _ ?side1 ?side2 ?side3 ?side4 ?side5 A9.out).mono ?_
   (case side1 => repeat (first | (with_reducible first | exact HI0.out | apply aa_.alloc | apply aa_.drewN | apply aa_.drew | apply aa_.set_1 | apply aa_.set_2 | refine aa_.far ?_ NB0_101.out _ | refine aa_.far ?_ NB0_102.out _) | exact HI0.out))
   (case side2 => repeat (first | (with_reducible first | exact HB.out | apply bA_ | apply bN_ | apply bD_ | refine ad_ ?_ (aa_.ge HI0.out) | refine ad_ ?_ GE101.out | refine ad_ ?_ GE102.out) | exact HB.out))
   (case side3 => exact cz (Kd.aD_ HO105.out).2.2)
   (case side4 => exact (Kd.aD_ HO105.out).2.1)
   (case side5 => exact far_slice (aa_.own_ne HI0.out HO105.out (by decide)))
   rintro e w15 ⟨rfl, hi, hb, hk⟩
   refine ⟨_, rfl, ?_⟩
   have n0_ := Aside0.mk (Kd.bp_ (Kd.cw_ (aa_.apart (show aa_ w0 _ g s0_0 x1001_1 x1002_1 from by repeat (first | (with_reducible first | exact HI0.out | apply aa_.alloc | apply aa_.drewN | apply aa_.drew | apply aa_.set_1 | apply aa_.set_2 | refine aa_.far ?_ NB0_101.out _ | refine aa_.far ?_ NB0_102.out _) | exact HI0.out)) (rz HO_103001.out) (by decide)) hk (fun _ h => h.2)) (fun _ h => h.1))
   have n1_ := Aside0.mk (ae_.blk hk (g' := gb101) (o := .cells #[.string (⟨#[]⟩ : ByteArray), .slice none 0 0] 28 (0, 0)) (kz BK101.out) NB101_0.out (by simp))
   have n2_ := Aside0.mk (ae_.blk hk (g' := gb102) (o := .cells #[.string a1, u103001] 28 (0, 0)) (kz BK102.out) NB102_0.out (by simp))
   have n3_ := Aside0.mk (Kd.bp_ (Kd.cw_ (aa_.apart (show aa_ w0 _ g s0_0 x1001_1 x1002_1 from by repeat (first | (with_reducible first | exact HI0.out | apply aa_.alloc | apply aa_.drewN | apply aa_.drew | apply aa_.set_1 | apply aa_.set_2 | refine aa_.far ?_ NB0_101.out _ | refine aa_.far ?_ NB0_102.out _) | exact HI0.out)) (rz HO105.out) (by decide)) hk (fun _ h => h.2)) (fun _ h => h.1))
   have n4_ := Aside0.mk (ae_.trans (by repeat (first | (with_reducible first | exact HK.out | apply ae_.set_ | apply ah_ | apply ao_ | apply ai_ | refine aS_ ?_ GW101.out _ | refine aS_ ?_ GW102.out _) | exact HK.out)) hk (.inl rfl))
   have n5_ := Aside0.mk (hb)
   have n6_ := Aside0.mk (hi)
   clear HO_103001
   clear BK101
   clear BK102
   clear HO105
   clear HK
   clear HB
   clear HI0
   have HO_103001 := n0_
   have BK101 := n1_
   have BK102 := n2_
   have HO105 := n3_
   have HK := n4_
   have HB := n5_
   have HI0 := n6_
   clear n0_ n1_ n2_ n3_ n4_ n5_ n6_
   (try clear hb)
   refine hK.out _ _ ⟨(aM_ BK102.out 0).trans rfl, (aM_ BK102.out 1).trans rfl⟩ (fun hHeld => ?_)
   clear hK K
   refine norm_ (a' := ?_) ?_ ?_
   rotate_left
   ·show Act.put _ (some 17) _ = _
    simp only [Act.put, lsa_, ls0_, ls1_, i64_w, i32_w]
    rfl
   refine one_ (i := 5) (N := some 18) #[t_,t_,t_,t_,t_,t_,f_,f_,f_] rfl rfl (cs_ HT_.out (by kernel_rfl)) (by decide) (fun K hK => ?_)
   refine value_ (w1 := ?_) (v := ?_) (by rfl) rfl ?_ ?_
   rotate_left 2
   ·go_simp
    constructor
    ·rfl
    ·rfl
   refine hK.out _ _ ⟨(aM_ (aI_ BK102.out _) 0).trans rfl, (aM_ (aI_ BK102.out _) 1).trans rfl⟩ (fun hHeld => ?_)
   clear hK K
   refine norm_ (a' := ?_) ?_ ?_
   rotate_left
   ·show Act.put _ (some 18) _ = _
    simp only [Act.put, lsa_, ls0_, ls1_, i64_w, i32_w]
    rfl
   refine one_ (i := 6) (N := some 19) #[t_,t_,t_,t_,t_,t_,t_,f_,f_] rfl rfl (cs_ HT_.out (by kernel_rfl)) (by decide) (fun K hK => ?_)
   refine Kd.R_append_step (Kd.int .i64) w.heap.size (by rfl) (.tmp 14) (.tmp 18) 22 2 (.int .i64 0) 8 rfl Try.underlying22 info2 rfl (by decide) (by omega) u103001 x103001_1 t106 [.int .i64 t106] (fun k_ => some k_ ≠ (.slice Ao14 y103.length co14 : Value).ownBlock) (fun _ => False) rfl rfl ?aP (fun _ hk => hk.elim) ?aF ?aO (Below.refl _ _) ?aS ?aL ?_
   (case aP => exact rfl)
   (case aF => exact (fun k_ hk => Kd.fresh' (Kd.R_lt (rz HO105.out)) k_ hk))
   (case aO => exact (rz (Kd.bp_ HO_103001.out (fun _ hk => hk.2))))
   (case aS => exact (be_ (w := w) (g := g) (row := none) (by repeat (first | (with_reducible first | exact HK.out | apply ae_.set_ | apply ah_ | apply ao_ | apply ai_ | refine aS_ ?_ GW101.out _ | refine aS_ ?_ GW102.out _) | exact HK.out))))
   (case aL => have := LMc10.out; omega)
   intro v110 w16 ho hb hg hat
   rw [← Ny109.out] at ho
   have n0_ := Aside0.mk (blk_grown (g := gb101) (o := .cells #[.string (⟨#[]⟩ : ByteArray), .slice none 0 0] 28 (0, 0)) (kz BK101.out) hg (Kd.R_ne HO_103001.out BK101.out (by decide)))
   have n1_ := Aside0.mk (blk_grown (g := gb102) (o := .cells #[.string a1, u103001] 28 (0, 0)) (kz BK102.out) hg (Kd.R_ne HO_103001.out BK102.out (by decide)))
   have n2_ := Aside0.mk (aa_.grown (by repeat (first | (with_reducible first | exact HI0.out | apply aa_.alloc | apply aa_.drewN | apply aa_.drew | apply aa_.set_1 | apply aa_.set_2 | refine aa_.far ?_ NB0_101.out _ | refine aa_.far ?_ NB0_102.out _) | exact HI0.out)) hg (aa_.own_ne HI0.out HO_103001.out (by decide)))
   have n3_ := Aside0.mk (Kd.bC_ (ok := (fun _ => True)) (rz HO105.out) hg hat)
   have n4_ := Aside0.mk (below_weaken (by repeat (first | (with_reducible first | exact HB.out | apply bA_ | apply bN_ | apply bD_ | refine ad_ ?_ (aa_.ge HI0.out) | refine ad_ ?_ GE101.out | refine ad_ ?_ GE102.out) | exact HB.out)) HL.out hb)
   have n5_ := Aside0.mk (ae_.trans (by repeat (first | (with_reducible first | exact HK.out | apply ae_.set_ | apply ah_ | apply ao_ | apply ai_ | refine aS_ ?_ GW101.out _ | refine aS_ ?_ GW102.out _) | exact HK.out)) (ae_.of_grown hg g) (Kd.R_base2 HO_103001.out))
   have n6_ := Aside0.mk (ho)
   clear BK101
   clear BK102
   clear HI0
   clear HO105
   clear HB
   clear HK
   clear HO_103001
   have BK101 := n0_
   have BK102 := n1_
   have HI0 := n2_
   have HO105 := n3_
   have HB := n4_
   have HK := n5_
   have HO111 := n6_
   clear n0_ n1_ n2_ n3_ n4_ n5_ n6_
   clear ho hb hg hat
   obtain ⟨Ao17, co17, eo17⟩ := Kd.bP_ HO111.out
   (first | subst eo17 | (injection eo17 with f1_ f2_ f3_; have f4_ := f1_.symm; have f5_ := f3_.symm; clear f1_ f2_ f3_; subst f4_; subst f5_))
   refine hK.out _ _ ⟨(aM_ BK102.out 0).trans rfl, (aM_ BK102.out 1).trans rfl⟩ (fun hHeld => ?_)
   clear hK K
   refine norm_ (a' := ?_) ?_ ?_
   rotate_left
   ·show Act.put _ (some 19) _ = _
    simp only [Act.put, lsa_, ls0_, ls1_, i64_w, i32_w]
    rfl
   refine pu 7 20 #[t_,t_,t_,t_,t_,t_,t_,t_,f_] HT_ ?_
   refine last_ (i := 8) (N := none) #[t_,t_,t_,t_,t_,t_,t_,t_,t_] rfl rfl (cs_ HT_.out (by kernel_rfl)) (by decide) (fun K hK => ?_)
   have hs18 : w16.cell? ⟨gb102, 1, none⟩ = some (u103001) := (aM_ BK102.out 1).trans rfl
   have hfs18 := bH_ BK102.out 1
   have hns18_0 := NB101_102.out
   have hms18_0 := NB102_101.out
   refine skip_ (w1 := ?_) (by rfl) rfl ?_ ?_
   rotate_left
   ·go_simp
    rfl
   refine hK.out _ _ ?_
   clear hK K
   refine done_ (cl_ HT_.out (by kernel_rfl)) ?_
   try go_wp2
   go_roundg k1
   case measure => have := HK1.out; omega
   case rel => exact ⟨(wrap64 (x6_1 + 1)), (t107), (t108), (y109), (.slice Ao17 y109.length co17), (by first | rfl | (simp; done) | (simp [*]; done)), H', ⟨by have := HK1.out; omega⟩, ⟨rz (Kd.bp_ (Kd.R_far (p := ⟨gb102, 1, none⟩) (Kd.cx_ HO111.out BK102.out (by decide)) (fun _ hk => hk.2) (.slice Ao17 y109.length co17)) (fun _ hk => trivial))⟩, ⟨by exact kf (kz BK101.out) NB101_102.out⟩, ⟨by exact kj2_1 (kz BK102.out)⟩, ⟨by repeat (first | (with_reducible first | exact HI0.out | apply aa_.alloc | apply aa_.drewN | apply aa_.drew | apply aa_.set_1 | apply aa_.set_2 | refine aa_.far ?_ NB0_101.out _ | refine aa_.far ?_ NB0_102.out _) | exact HI0.out)⟩, ⟨by repeat (first | (with_reducible first | exact HK.out | apply ae_.set_ | apply ah_ | apply ao_ | apply ai_ | refine aS_ ?_ GW101.out _ | refine aS_ ?_ GW102.out _) | exact HK.out)⟩, ⟨by repeat (first | (with_reducible first | exact HB.out | apply bA_ | apply bN_ | apply bD_ | refine ad_ ?_ (aa_.ge HI0.out) | refine ad_ ?_ GE101.out | refine ad_ ?_ GE102.out) | exact HB.out)⟩⟩
def bs_.f (s0_0 : List Int) (s0_1 : Int) (s0_2 : Int) (l1 : List ByteArray) : Option (ByteArray × Int × Int) := (aT_.f s0_0 s0_1 s0_2 (l1.length : Int)).bind fun bt101 => (if 0 ≤ bt101.1 then (if bt101.1 < (l1.length : Int) then (some (rdOf ByteArray.empty l1 bt101.1, bt101.2.1, bt101.2.2)) else (none)) else (none))
set_option maxHeartbeats 8000000 in
set_option maxRecDepth 100000 in
theorem bs_.calls (g : Nat) (s0_0 : List Int) (s0_1 : Int) (s0_2 : Int) (A1 : Option Addr) (c1 : Nat) (l1 : List ByteArray) (r1 : ByteArray) (r2 : Int) (r3 : Int) (w0 w : World) (hI : aa_ w0 w g s0_0 s0_1 s0_2) (hB : Below w0.heap.size w0 w) (hr1 : Kd.C Kd.string w A1 l1.length l1) (hc1 : l1.length ≤ c1) (hf1 : ∀ ad, A1 = some ad → 0 < l1.length → ad.block ≠ g) (h : bs_.f s0_0 s0_1 s0_2 l1 = some (r1, r2, r3)) :
  Calls Try.prog 91 #[.pointer (some ⟨g, 0, none⟩), .slice A1 l1.length c1] w fun e w' => e = .returned (.string r1) ∧ aa_ w0 w' g s0_0 r2 r3 ∧ Below w0.heap.size w0 w' ∧ ae_ w w' g none := by
 have HR1 := Aside0.mk hr1
 have HC1 := Aside0.mk hc1
 clear hr1 hc1
 have HI0 := Aside0.mk hI
 have HK := Aside0.mk (ae_.refl w g none)
 have HL := Aside0.mk hB.size
 clear hI
 have HW0 := Aside0.mk hB.size
 have HB := Aside0.mk hB
 clear hB
 have H : ((aT_.f s0_0 s0_1 s0_2 (l1.length : Int)).bind fun bt101 => (if 0 ≤ bt101.1 then (if bt101.1 < (l1.length : Int) then (some (rdOf ByteArray.empty l1 bt101.1, bt101.2.1, bt101.2.2)) else (none)) else (none))) = some (r1, r2, r3) := h
 clear h
 replace H := Option.bind_eq_some_iff.mp H
 obtain ⟨⟨t101, t102, t103⟩, A30, H⟩ := H
 (try dsimp only at H)
 have A3 := Aside0.mk A30
 clear A30
 by_cases c4 : 0 ≤ t101
 rotate_left
 ·rw [if_neg c4] at H
  exact absurd H (by simp)
 rw [if_pos c4] at H
 have c4b0 : decide (0 ≤ t101) = true := decide_eq_true c4
 clear c4
 by_cases c5 : t101 < (l1.length : Int)
 rotate_left
 ·rw [if_neg c5] at H
  exact absurd H (by simp)
 rw [if_pos c5] at H
 have c5b0 : decide (t101 < (l1.length : Int)) = true := decide_eq_true c5
 clear c5
 simp only [Option.some.injEq, Prod.mk.injEq] at H
 obtain ⟨rfl, rfl, rfl⟩ := H
 go_enter Try.func91, Try.ntmps91
 go_wp2_with (first | ((with_reducible refine av_ (f := 92) rfl ?_); refine bo_ (some 9) rfl rfl Try.func92 (by kernel_rfl) rfl #[.pointer (some ⟨g, 0, none⟩), .int .i64 (l1.length : Int)] rfl (by first | rfl | (simp only [lma_, lmc_, lmn_]; first | done | rfl)) ?_; (with_reducible refine (aT_.calls g s0_0 s0_1 s0_2 (l1.length : Int) t101 t102 t103 w0 _ ?side1 ?side2 A3.out).mono ?_); (case side1 => repeat (first | (with_reducible first | exact HI0.out | apply aa_.alloc | apply aa_.drewN | apply aa_.drew | apply aa_.set_1 | apply aa_.set_2) | exact HI0.out)); (case side2 => repeat (first | (with_reducible first | exact HB.out | apply bA_ | apply bN_ | apply bD_ | refine ad_ ?_ (aa_.ge HI0.out)) | exact HB.out)); rintro e w6 ⟨rfl, hi, hb, hk⟩; refine ⟨_, rfl, ?_⟩; replace HK := Aside0.mk (ae_.trans (by repeat (first | (with_reducible first | exact HK.out | apply ae_.set_ | apply ah_ | apply ao_ | apply ai_) | exact HK.out)) hk (.inl rfl)); replace HB := Aside0.mk (hb); replace HI0 := Aside0.mk (hi); (try clear hb); have p104 : 0 ≤ (t101 : Int) := of_decide_eq_true (by assumption); have q104 : t101 < (l1.length : Int) := of_decide_eq_true (by assumption); obtain ⟨ad104, e104, hx104_0⟩ := Kd.at_string HR1.out t101 p104 q104; cases e104; replace hx104_0 := keep_cell HK.out hx104_0 (by first | (rw [add_block]; exact hf1 _ rfl (by omega)) | exact hf1 _ rfl (by omega) | exact hf1 ad104 rfl (by omega)); replace p104 := eq_true p104; replace q104 := eq_true q104))
 go_ret
 exact ⟨by first | rfl | (simp [*, aH_, aG_] <;> rfl), by repeat (first | (with_reducible first | exact HI0.out | apply aa_.alloc | apply aa_.drewN | apply aa_.drew | apply aa_.set_1 | apply aa_.set_2) | exact HI0.out), by repeat (first | (with_reducible first | exact HB.out | apply bA_ | apply bN_ | apply bD_ | refine ad_ ?_ (aa_.ge HI0.out)) | exact HB.out), by repeat (first | (with_reducible first | exact HK.out | apply ae_.set_ | apply ah_ | apply ao_ | apply ai_) | exact HK.out)⟩
def ba_.f (k : Nat) (s0_0 : List Int) (s0_1 : Int) (s0_2 : Int) : Option (ByteArray × List Int × Int × Int) := (bs_.f s0_0 s0_1 s0_2 (([(⟨#[97]⟩ : ByteArray), (⟨#[98]⟩ : ByteArray), (⟨#[111, 97, 107, 49]⟩ : ByteArray)] : List ByteArray))).bind fun bt105 => ((aL_.f k s0_0 bt105.2.1 bt105.2.2 bt105.1).bind fun bt108 => ((aT_.f s0_0 bt108.2.2.1 bt108.2.2.2 18).bind fun bt115 => (if bt115.1 = 0 then ((bc_.f s0_0 bt115.2.1 bt115.2.2 (([(-1), 255, 256] : List Int))).bind fun bt121 => (if 3 < (bt108.2.1.length : Int) then (some (bt108.1, (bt108.2.1.set (3 : Int).toNat bt121.1), bt121.2.1, bt121.2.2)) else (none))) else (if bt115.1 = 1 then (if 1 ≤ (bt108.2.1.length : Int) then (some (bt108.1, (bt108.2.1.drop (1 : Int).toNat), bt115.2.1, bt115.2.2)) else (none)) else (if bt115.1 = 2 then ((bs_.f s0_0 bt115.2.1 bt115.2.2 (([(⟨#[]⟩ : ByteArray), (⟨#[65]⟩ : ByteArray)] : List ByteArray))).bind fun bt131 => (some (bt131.1, bt108.2.1, bt131.2.1, bt131.2.2))) else (some (bt108.1, bt108.2.1, bt115.2.1, bt115.2.2)))))))
set_option maxHeartbeats 8000000 in
set_option maxRecDepth 100000 in
theorem ba_.calls (k : Nat) (g : Nat) (s0_0 : List Int) (s0_1 : Int) (s0_2 : Int) (r1 : ByteArray) (r2 : List Int) (r3 : Int) (r4 : Int) (w0 w : World) (hI : aa_ w0 w g s0_0 s0_1 s0_2) (hB : Below w0.heap.size w0 w) (h : ba_.f k s0_0 s0_1 s0_2 = some (r1, r2, r3, r4)) :
  Calls Try.prog 70 #[.pointer (some ⟨g, 0, none⟩)] w fun e w' => ∃ v1_ : Value, e = .returned (.agg #[.string r1, v1_]) ∧ Kd.Q (Kd.int .i64) 2 w' w.heap.size (fun _ => True) v1_ r2 ∧ aa_ w0 w' g s0_0 r3 r4 ∧ Below w0.heap.size w0 w' ∧ ae_ w w' g none := by
 have hu28 := Try.underlying28
 have HI0 := Aside0.mk hI
 have HK := Aside0.mk (ae_.refl w g none)
 have HL := Aside0.mk hB.size
 clear hI
 have HW0 := Aside0.mk hB.size
 have HB := Aside0.mk hB
 clear hB
 have H : ((bs_.f s0_0 s0_1 s0_2 (([(⟨#[97]⟩ : ByteArray), (⟨#[98]⟩ : ByteArray), (⟨#[111, 97, 107, 49]⟩ : ByteArray)] : List ByteArray))).bind fun bt105 => ((aL_.f k s0_0 bt105.2.1 bt105.2.2 bt105.1).bind fun bt108 => ((aT_.f s0_0 bt108.2.2.1 bt108.2.2.2 18).bind fun bt115 => (if bt115.1 = 0 then ((bc_.f s0_0 bt115.2.1 bt115.2.2 (([(-1), 255, 256] : List Int))).bind fun bt121 => (if 3 < (bt108.2.1.length : Int) then (some (bt108.1, (bt108.2.1.set (3 : Int).toNat bt121.1), bt121.2.1, bt121.2.2)) else (none))) else (if bt115.1 = 1 then (if 1 ≤ (bt108.2.1.length : Int) then (some (bt108.1, (bt108.2.1.drop (1 : Int).toNat), bt115.2.1, bt115.2.2)) else (none)) else (if bt115.1 = 2 then ((bs_.f s0_0 bt115.2.1 bt115.2.2 (([(⟨#[]⟩ : ByteArray), (⟨#[65]⟩ : ByteArray)] : List ByteArray))).bind fun bt131 => (some (bt131.1, bt108.2.1, bt131.2.1, bt131.2.2))) else (some (bt108.1, bt108.2.1, bt115.2.1, bt115.2.2)))))))) = some (r1, r2, r3, r4) := h
 clear h
 obtain ⟨y102, hy102⟩ : ∃ y_ : List ByteArray, y_ = (([(⟨#[97]⟩ : ByteArray), (⟨#[98]⟩ : ByteArray), (⟨#[111, 97, 107, 49]⟩ : ByteArray)] : List ByteArray)) := ⟨_, rfl⟩
 replace H : ((bs_.f s0_0 s0_1 s0_2 y102).bind fun bt105 => ((aL_.f k s0_0 bt105.2.1 bt105.2.2 bt105.1).bind fun bt108 => ((aT_.f s0_0 bt108.2.2.1 bt108.2.2.2 18).bind fun bt115 => (if bt115.1 = 0 then ((bc_.f s0_0 bt115.2.1 bt115.2.2 (([(-1), 255, 256] : List Int))).bind fun bt121 => (if 3 < (bt108.2.1.length : Int) then (some (bt108.1, (bt108.2.1.set (3 : Int).toNat bt121.1), bt121.2.1, bt121.2.2)) else (none))) else (if bt115.1 = 1 then (if 1 ≤ (bt108.2.1.length : Int) then (some (bt108.1, (bt108.2.1.drop (1 : Int).toNat), bt115.2.1, bt115.2.2)) else (none)) else (if bt115.1 = 2 then ((bs_.f s0_0 bt115.2.1 bt115.2.2 (([(⟨#[]⟩ : ByteArray), (⟨#[65]⟩ : ByteArray)] : List ByteArray))).bind fun bt131 => (some (bt131.1, bt108.2.1, bt131.2.1, bt131.2.2))) else (some (bt108.1, bt108.2.1, bt115.2.1, bt115.2.2)))))))) = some (r1, r2, r3, r4) := by first | (rw [hy102]; with_reducible exact H) | (have H2_ := (Option.bind_some _ _).symm.trans H; rw [hy102]; with_reducible exact H2_) | (have H2_ := (Option.bind_some _ _).symm.trans H; with_reducible exact H2_) | with_reducible exact H | (rw [hy102]; exact H) | exact H
 have Ny102 := Aside0.mk hy102
 clear hy102
 replace H := Option.bind_eq_some_iff.mp H
 obtain ⟨⟨t105, t106, t107⟩, A20, H⟩ := H
 (try dsimp only at H)
 have A2 := Aside0.mk A20
 clear A20
 replace H := Option.bind_eq_some_iff.mp H
 obtain ⟨⟨t108, t109, t112, t113⟩, A30, H⟩ := H
 (try dsimp only at H)
 have A3 := Aside0.mk A30
 clear A30
 replace H := Option.bind_eq_some_iff.mp H
 obtain ⟨⟨t115, t116, t117⟩, A40, H⟩ := H
 (try dsimp only at H)
 have A4 := Aside0.mk A40
 clear A40
 have HC5 := Aside0.mk H
 clear H
 go_enter Try.func70, Try.ntmps70
 go_upto_if 11 with (first | ((with_reducible refine bg_ (N := 2) rfl ?_); refine bt_ ?hg (N := 2) ?hd (cs := #[.string (⟨#[]⟩ : ByteArray), .slice none 0 0]) (t := 28) ?hr ?_; (case hd => rfl); (case hg => rfl); (case hr => (go_simp; try rfl)); intro gb101 hg w6 hbox hb; replace HB := Aside0.mk (am_ (by repeat (first | (with_reducible first | exact HB.out | apply bA_ | apply bN_ | apply bD_ | refine ad_ ?_ (aa_.ge HI0.out)) | exact HB.out)) hb); have BK101 := Aside0.mk (hbox); have GW101 := Aside0.mk ((by rw [hg]; exact (be_ (w := w) (g := g) (row := none) (by repeat (first | (with_reducible first | exact HK.out | apply ae_.set_ | apply ah_ | apply ao_ | apply ai_) | exact HK.out))) : w.heap.size ≤ gb101)); have GE101 := Aside0.mk ((Nat.le_trans HW0.out (by rw [hg]; exact (be_ (w := w) (g := g) (row := none) (by repeat (first | (with_reducible first | exact HK.out | apply ae_.set_ | apply ah_ | apply ao_ | apply ai_) | exact HK.out))) : w.heap.size ≤ gb101) : w0.heap.size ≤ gb101)); replace HK := Aside0.mk (ae_.trans (by repeat (first | (with_reducible first | exact HK.out | apply ae_.set_ | apply ah_ | apply ao_ | apply ai_) | exact HK.out)) (ae_.of_below hb g none) (.inl rfl)); have NB0_101 := Aside0.mk ((by rw [hg]; exact Nat.ne_of_lt (aa_.lt (show aa_ w0 _ g s0_0 s0_1 s0_2 from by repeat (first | (with_reducible first | exact HI0.out | apply aa_.alloc | apply aa_.drewN | apply aa_.drew | apply aa_.set_1 | apply aa_.set_2) | exact HI0.out))) : g ≠ gb101)); have NB101_0 := Aside0.mk ((by rw [hg]; exact Nat.ne_of_gt (aa_.lt (show aa_ w0 _ g s0_0 s0_1 s0_2 from by repeat (first | (with_reducible first | exact HI0.out | apply aa_.alloc | apply aa_.drewN | apply aa_.drew | apply aa_.set_1 | apply aa_.set_2) | exact HI0.out))) : gb101 ≠ g)); replace HI0 := Aside0.mk (aa_.below (by repeat (first | (with_reducible first | exact HI0.out | apply aa_.alloc | apply aa_.drewN | apply aa_.drew | apply aa_.set_1 | apply aa_.set_2) | exact HI0.out)) hb); clear hb hbox hg) | ((with_reducible refine bg_ (N := 6) rfl ?_); refine Kd.R_lit Kd.string _ 9 ?hg (N := 6) ?hd (xs := ([(⟨#[97]⟩ : ByteArray), (⟨#[98]⟩ : ByteArray), (⟨#[111, 97, 107, 49]⟩ : ByteArray)] : List ByteArray)) (inner := [.string (⟨#[97]⟩ : ByteArray), .string (⟨#[98]⟩ : ByteArray), .string (⟨#[111, 97, 107, 49]⟩ : ByteArray)]) (ok := fun _ => True) (okp := fun _ => True) ?hr ?hp (fun _ hk => hk) trivial (Below.refl _ _) (Nat.le_refl _) (by simp) ?_; (case hd => rfl); (case hg => rfl); (case hr => (go_simp; try rfl)); (case hp => exact (Reps.one (show Kd.M Kd.string _ _ _ (⟨#[97]⟩ : ByteArray) [.string (⟨#[97]⟩ : ByteArray)] from rfl) (Reps.one (show Kd.M Kd.string _ _ _ (⟨#[98]⟩ : ByteArray) [.string (⟨#[98]⟩ : ByteArray)] from rfl) (Reps.one (show Kd.M Kd.string _ _ _ (⟨#[111, 97, 107, 49]⟩ : ByteArray) [.string (⟨#[111, 97, 107, 49]⟩ : ByteArray)] from rfl) (Reps.none _ _))))); intro v103 w7 ho8 hb hg_ hnew_; clear hg_ hnew_; (first | rw [← Ny102.out] at ho8 | (simp only [Int.reduceToNat] at ho8; rw [← Ny102.out] at ho8)); have HO104 := Aside0.mk (Kd.bM_ ho8 (be_ (w := w) (g := g) (row := none) (by repeat (first | (with_reducible first | exact HK.out | apply ae_.set_ | apply ah_ | apply ao_ | apply ai_ | refine aS_ ?_ GW101.out _) | exact HK.out)))); replace BK101 := Aside0.mk (ag_ (kz BK101.out) hb); replace HK := Aside0.mk (ae_.trans (by repeat (first | (with_reducible first | exact HK.out | apply ae_.set_ | apply ah_ | apply ao_ | apply ai_ | refine aS_ ?_ GW101.out _) | exact HK.out)) (ae_.of_below hb g none) (.inl rfl)); replace HB := Aside0.mk (am_ (by repeat (first | (with_reducible first | exact HB.out | apply bA_ | apply bN_ | apply bD_ | refine ad_ ?_ (aa_.ge HI0.out) | refine ad_ ?_ GE101.out) | exact HB.out)) hb); replace HI0 := Aside0.mk (aa_.below (by repeat (first | (with_reducible first | exact HI0.out | apply aa_.alloc | apply aa_.drewN | apply aa_.drew | apply aa_.set_1 | apply aa_.set_2 | refine aa_.far ?_ NB0_101.out _) | exact HI0.out)) hb); clear hb ho8; obtain ⟨Ao9, co9, eo9⟩ := Kd.bP_ HO104.out; subst eo9) | ((with_reducible refine av_ (f := 91) rfl ?_); refine bo_ (some 7) rfl rfl Try.func91 (by kernel_rfl) rfl #[.pointer (some ⟨g, 0, none⟩), .slice Ao9 y102.length co9] rfl (by first | rfl | (simp only [lma_, lmc_, lmn_]; first | done | rfl)) ?_; (with_reducible refine (bs_.calls g s0_0 s0_1 s0_2 _ _ y102 t105 t106 t107 w0 _ ?side1 ?side2 ?side3 ?side4 ?side5 A2.out).mono ?_); (case side1 => repeat (first | (with_reducible first | exact HI0.out | apply aa_.alloc | apply aa_.drewN | apply aa_.drew | apply aa_.set_1 | apply aa_.set_2 | refine aa_.far ?_ NB0_101.out _) | exact HI0.out)); (case side2 => repeat (first | (with_reducible first | exact HB.out | apply bA_ | apply bN_ | apply bD_ | refine ad_ ?_ (aa_.ge HI0.out) | refine ad_ ?_ GE101.out) | exact HB.out)); (case side3 => exact cz (Kd.aD_ HO104.out).2.2); (case side4 => exact (Kd.aD_ HO104.out).2.1); (case side5 => exact far_slice (aa_.own_ne HI0.out HO104.out (by decide))); rintro e w10 ⟨rfl, hi, hb, hk⟩; refine ⟨_, rfl, ?_⟩; replace BK101 := Aside0.mk (ae_.blk hk (g' := gb101) (o := .cells #[.string (⟨#[]⟩ : ByteArray), .slice none 0 0] 28 (0, 0)) (kz BK101.out) NB101_0.out (by simp)); replace HO104 := Aside0.mk (Kd.bp_ (Kd.cw_ (aa_.apart (show aa_ w0 _ g s0_0 s0_1 s0_2 from by repeat (first | (with_reducible first | exact HI0.out | apply aa_.alloc | apply aa_.drewN | apply aa_.drew | apply aa_.set_1 | apply aa_.set_2 | refine aa_.far ?_ NB0_101.out _) | exact HI0.out)) (rz HO104.out) (by decide)) hk (fun _ h => h.2)) (fun _ h => h.1)); replace HK := Aside0.mk (ae_.trans (by repeat (first | (with_reducible first | exact HK.out | apply ae_.set_ | apply ah_ | apply ao_ | apply ai_ | refine aS_ ?_ GW101.out _) | exact HK.out)) hk (.inl rfl)); replace HB := Aside0.mk (hb); replace HI0 := Aside0.mk (hi); (try clear hb)) | ((with_reducible refine av_ (f := 90) rfl ?_); refine bo_ (some 8) rfl rfl Try.func90 (by kernel_rfl) rfl #[.pointer (some ⟨g, 0, none⟩), .string t105] rfl (by first | rfl | (simp only [lma_, lmc_, lmn_]; first | done | rfl)) ?_; (with_reducible refine (aL_.calls k g s0_0 t106 t107 t105 t108 t109 t112 t113 w0 _ ?side1 ?side2 A3.out).mono ?_); (case side1 => repeat (first | (with_reducible first | exact HI0.out | apply aa_.alloc | apply aa_.drewN | apply aa_.drew | apply aa_.set_1 | apply aa_.set_2 | refine aa_.far ?_ NB0_101.out _) | exact HI0.out)); (case side2 => repeat (first | (with_reducible first | exact HB.out | apply bA_ | apply bN_ | apply bD_ | refine ad_ ?_ (aa_.ge HI0.out) | refine ad_ ?_ GE101.out) | exact HB.out)); rintro e w11 ⟨v110, rfl, ho0, hi, hb, hk⟩; refine ⟨_, rfl, ?_⟩; replace BK101 := Aside0.mk (ae_.blk hk (g' := gb101) (o := .cells #[.string (⟨#[]⟩ : ByteArray), .slice none 0 0] 28 (0, 0)) (kz BK101.out) NB101_0.out (by simp)); replace HO104 := Aside0.mk (Kd.bp_ (Kd.cw_ (aa_.apart (show aa_ w0 _ g s0_0 t106 t107 from by repeat (first | (with_reducible first | exact HI0.out | apply aa_.alloc | apply aa_.drewN | apply aa_.drew | apply aa_.set_1 | apply aa_.set_2 | refine aa_.far ?_ NB0_101.out _) | exact HI0.out)) (rz HO104.out) (by decide)) hk (fun _ h => h.2)) (fun _ h => h.1)); have HO111 := Aside0.mk (Kd.bM_ ho0 (be_ (w := w) (g := g) (row := none) (by repeat (first | (with_reducible first | exact HK.out | apply ae_.set_ | apply ah_ | apply ao_ | apply ai_ | refine aS_ ?_ GW101.out _) | exact HK.out)))); replace HK := Aside0.mk (ae_.trans (by repeat (first | (with_reducible first | exact HK.out | apply ae_.set_ | apply ah_ | apply ao_ | apply ai_ | refine aS_ ?_ GW101.out _) | exact HK.out)) hk (.inl rfl)); replace HB := Aside0.mk (hb); replace HI0 := Aside0.mk (hi); (try clear hb); (try clear ho0)) | ((with_reducible refine bg_ (N := 3) rfl ?_); refine bt_ ?hg (N := 3) ?hd (cs := #[.string (⟨#[]⟩ : ByteArray), .slice none 0 0]) (t := 28) ?hr ?_; (case hd => rfl); (case hg => rfl); (case hr => (go_simp; try rfl)); intro gb114 hg w12 hbox hb; replace HO104 := Aside0.mk (Kd.cc_ (rz HO104.out) hb); replace HO111 := Aside0.mk (Kd.cc_ (rz HO111.out) hb); replace HB := Aside0.mk (am_ (by repeat (first | (with_reducible first | exact HB.out | apply bA_ | apply bN_ | apply bD_ | refine ad_ ?_ (aa_.ge HI0.out) | refine ad_ ?_ GE101.out) | exact HB.out)) hb); have BK114 := Aside0.mk (hbox); have GW114 := Aside0.mk ((by rw [hg]; exact (be_ (w := w) (g := g) (row := none) (by repeat (first | (with_reducible first | exact HK.out | apply ae_.set_ | apply ah_ | apply ao_ | apply ai_ | refine aS_ ?_ GW101.out _) | exact HK.out))) : w.heap.size ≤ gb114)); have GE114 := Aside0.mk ((Nat.le_trans HW0.out (by rw [hg]; exact (be_ (w := w) (g := g) (row := none) (by repeat (first | (with_reducible first | exact HK.out | apply ae_.set_ | apply ah_ | apply ao_ | apply ai_ | refine aS_ ?_ GW101.out _) | exact HK.out))) : w.heap.size ≤ gb114) : w0.heap.size ≤ gb114)); replace HK := Aside0.mk (ae_.trans (by repeat (first | (with_reducible first | exact HK.out | apply ae_.set_ | apply ah_ | apply ao_ | apply ai_ | refine aS_ ?_ GW101.out _) | exact HK.out)) (ae_.of_below hb g none) (.inl rfl)); have NB101_114 := Aside0.mk ((by rw [hg]; exact Nat.ne_of_lt (bX_ (kz BK101.out)) : gb101 ≠ gb114)); have NB114_101 := Aside0.mk ((by rw [hg]; exact Nat.ne_of_gt (bX_ (kz BK101.out)) : gb114 ≠ gb101)); replace BK101 := Aside0.mk (ag_ (kz BK101.out) hb); have NB0_114 := Aside0.mk ((by rw [hg]; exact Nat.ne_of_lt (aa_.lt (show aa_ w0 _ g s0_0 t112 t113 from by repeat (first | (with_reducible first | exact HI0.out | apply aa_.alloc | apply aa_.drewN | apply aa_.drew | apply aa_.set_1 | apply aa_.set_2 | refine aa_.far ?_ NB0_101.out _) | exact HI0.out))) : g ≠ gb114)); have NB114_0 := Aside0.mk ((by rw [hg]; exact Nat.ne_of_gt (aa_.lt (show aa_ w0 _ g s0_0 t112 t113 from by repeat (first | (with_reducible first | exact HI0.out | apply aa_.alloc | apply aa_.drewN | apply aa_.drew | apply aa_.set_1 | apply aa_.set_2 | refine aa_.far ?_ NB0_101.out _) | exact HI0.out))) : gb114 ≠ g)); replace HI0 := Aside0.mk (aa_.below (by repeat (first | (with_reducible first | exact HI0.out | apply aa_.alloc | apply aa_.drewN | apply aa_.drew | apply aa_.set_1 | apply aa_.set_2 | refine aa_.far ?_ NB0_101.out _) | exact HI0.out)) hb); clear hb hbox hg; have hnb13 := NB114_101.out; have hnc13 := NB101_114.out; have hnb14 := NB114_0.out; have hnc14 := NB0_114.out; obtain ⟨hcz15_0, hcz15_1⟩ := cz2_ BK114.out; obtain ⟨hfz15_0, hfz15_1⟩ := fz2_ BK114.out; obtain ⟨Ao16, co16, eo16⟩ := Kd.bP_ HO111.out; subst eo16) | ((with_reducible refine av_ (f := 92) rfl ?_); refine bo_ (some 10) rfl rfl Try.func92 (by kernel_rfl) rfl #[.pointer (some ⟨g, 0, none⟩), .int .i64 18] rfl (by first | rfl | (simp only [lma_, lmc_, lmn_]; first | done | rfl)) ?_; (with_reducible refine (aT_.calls g s0_0 t112 t113 18 t115 t116 t117 w0 _ ?side1 ?side2 A4.out).mono ?_); (case side1 => repeat (first | (with_reducible first | exact HI0.out | apply aa_.alloc | apply aa_.drewN | apply aa_.drew | apply aa_.set_1 | apply aa_.set_2 | refine aa_.far ?_ NB0_101.out _ | refine aa_.far ?_ NB0_114.out _) | exact HI0.out)); (case side2 => repeat (first | (with_reducible first | exact HB.out | apply bA_ | apply bN_ | apply bD_ | refine ad_ ?_ (aa_.ge HI0.out) | refine ad_ ?_ GE101.out | refine ad_ ?_ GE114.out) | exact HB.out)); rintro e w17 ⟨rfl, hi, hb, hk⟩; refine ⟨_, rfl, ?_⟩; replace BK101 := Aside0.mk (ae_.blk hk (g' := gb101) (o := .cells #[.string (⟨#[]⟩ : ByteArray), .slice none 0 0] 28 (0, 0)) (by exact kf (kf (kz BK101.out) NB101_114.out) NB101_114.out) NB101_0.out (by simp)); replace HO104 := Aside0.mk (Kd.bp_ (Kd.cw_ (aa_.apart (show aa_ w0 _ g s0_0 t112 t113 from by repeat (first | (with_reducible first | exact HI0.out | apply aa_.alloc | apply aa_.drewN | apply aa_.drew | apply aa_.set_1 | apply aa_.set_2 | refine aa_.far ?_ NB0_101.out _ | refine aa_.far ?_ NB0_114.out _) | exact HI0.out)) (rz (Kd.bp_ (Kd.R_far (p := ⟨gb114, 1, none⟩) (Kd.R_far (p := ⟨gb114, 0, none⟩) (Kd.cx_ HO104.out BK114.out (by decide)) (fun _ hk => hk.2) (.string t108)) (fun _ hk => hk.2) (.slice Ao16 t109.length co16)) (fun _ h_ => h_.1))) (by decide)) hk (fun _ h => h.2)) (fun _ h => h.1)); replace HO111 := Aside0.mk (Kd.bp_ (Kd.cw_ (aa_.apart (show aa_ w0 _ g s0_0 t112 t113 from by repeat (first | (with_reducible first | exact HI0.out | apply aa_.alloc | apply aa_.drewN | apply aa_.drew | apply aa_.set_1 | apply aa_.set_2 | refine aa_.far ?_ NB0_101.out _ | refine aa_.far ?_ NB0_114.out _) | exact HI0.out)) (rz (Kd.bp_ (Kd.R_far (p := ⟨gb114, 1, none⟩) (Kd.R_far (p := ⟨gb114, 0, none⟩) (Kd.cx_ HO111.out BK114.out (by decide)) (fun _ hk => hk.2) (.string t108)) (fun _ hk => hk.2) (.slice Ao16 t109.length co16)) (fun _ h_ => h_.1))) (by decide)) hk (fun _ h => h.2)) (fun _ h => h.1)); replace BK114 := Aside0.mk (ae_.blk hk (g' := gb114) (o := .cells #[.string t108, .slice Ao16 t109.length co16] 28 (0, 0)) (by exact kj2_1 (kj2_0 (kz BK114.out))) NB114_0.out (by simp)); replace HK := Aside0.mk (ae_.trans (by repeat (first | (with_reducible first | exact HK.out | apply ae_.set_ | apply ah_ | apply ao_ | apply ai_ | refine aS_ ?_ GW101.out _ | refine aS_ ?_ GW114.out _) | exact HK.out)) hk (.inl rfl)); replace HB := Aside0.mk (hb); replace HI0 := Aside0.mk (hi); (try clear hb)))
 (try simp only [Act.put, lsa_, ls0_, ls1_])
 have H := HC5.out
 clear HC5
 by_cases c18 : t115 = 0
 rotate_left
 ·rw [if_neg c18] at H
  have c18b0 : (t115 == 0) = false := beq_eq_false_iff_ne.mpr c18
  have c18b1 : (t115 != 0) = true := bne_iff_ne.mpr c18
  (first | rw [c18b0] | (simp only [i64_w, i32_w]; rw [c18b0]) | (simp only [c18b1, Bool.not_true, Bool.not_false]) | (simp only [c18b0, Bool.not_true, Bool.not_false]) | skip)
  by_cases c34 : t115 = 1
  rotate_left
  ·rw [if_neg c34] at H
   have c34b0 : (t115 == 1) = false := beq_eq_false_iff_ne.mpr c34
   have c34b1 : (t115 != 1) = true := bne_iff_ne.mpr c34
   by_cases c42 : t115 = 2
   rotate_left
   ·rw [if_neg c42] at H
    have c42b0 : (t115 == 2) = false := beq_eq_false_iff_ne.mpr c42
    have c42b1 : (t115 != 2) = true := bne_iff_ne.mpr c42
    simp only [Option.some.injEq, Prod.mk.injEq] at H
    obtain ⟨rfl, rfl, rfl, rfl⟩ := H
    have hnb53 := NB114_101.out
    have hnc53 := NB101_114.out
    have hnb54 := NB114_0.out
    have hnc54 := NB0_114.out
    obtain ⟨hcz55_0, hcz55_1⟩ := cz2_ BK114.out
    obtain ⟨hfz55_0, hfz55_1⟩ := fz2_ BK114.out
    have hnb56 := NB101_0.out
    have hnc56 := NB0_101.out
    obtain ⟨hcz57_0, hcz57_1⟩ := cz2_ BK101.out
    obtain ⟨hfz57_0, hfz57_1⟩ := fz2_ BK101.out
    go_wp2
    refine bodyPost_ret (results_cell_row rfl _ _ gb101 28 #[.string t108, .slice Ao16 t109.length co16] (0, 0) _ rfl (by exact kj2_1 (kj2_0 (kz BK101.out))) Try.underlying28 rfl (by kernel_rfl)) rfl ?_
    exact ⟨_, by first | rfl | (simp [*, aH_, aG_] <;> rfl), Kd.Q_of_R (rz (Kd.bp_ (Kd.R_far (p := ⟨gb101, 1, none⟩) (Kd.R_far (p := ⟨gb101, 0, none⟩) (Kd.cx_ HO111.out BK101.out (by decide)) (fun _ hk => hk.2) (.string t108)) (fun _ hk => hk.2) (.slice Ao16 t109.length co16)) (fun _ hk => trivial))), by repeat (first | (with_reducible first | exact HI0.out | apply aa_.alloc | apply aa_.drewN | apply aa_.drew | apply aa_.set_1 | apply aa_.set_2 | refine aa_.far ?_ NB0_101.out _ | refine aa_.far ?_ NB0_114.out _) | exact HI0.out), by repeat (first | (with_reducible first | exact HB.out | apply bA_ | apply bN_ | apply bD_ | refine ad_ ?_ (aa_.ge HI0.out) | refine ad_ ?_ GE101.out | refine ad_ ?_ GE114.out) | exact HB.out), by repeat (first | (with_reducible first | exact HK.out | apply ae_.set_ | apply ah_ | apply ao_ | apply ai_ | refine aS_ ?_ GW101.out _ | refine aS_ ?_ GW114.out _) | exact HK.out)⟩
   rw [if_pos c42] at H
   have c42b0 : (t115 == 2) = true := beq_iff_eq.mpr c42
   have c42b1 : (t115 != 2) = false := bne_eq_false_iff_eq.mpr c42
   clear c42
   obtain ⟨y128, hy128⟩ : ∃ y_ : List ByteArray, y_ = (([(⟨#[]⟩ : ByteArray), (⟨#[65]⟩ : ByteArray)] : List ByteArray)) := ⟨_, rfl⟩
   replace H : ((bs_.f s0_0 t116 t117 y128).bind fun bt131 => (some (bt131.1, t109, bt131.2.1, bt131.2.2))) = some (r1, r2, r3, r4) := by first | (rw [hy128]; with_reducible exact H) | (have H2_ := (Option.bind_some _ _).symm.trans H; rw [hy128]; with_reducible exact H2_) | (have H2_ := (Option.bind_some _ _).symm.trans H; with_reducible exact H2_) | with_reducible exact H | (rw [hy128]; exact H) | exact H
   have Ny128 := Aside0.mk hy128
   clear hy128
   replace H := Option.bind_eq_some_iff.mp H
   obtain ⟨⟨t131, t132, t133⟩, A430, H⟩ := H
   (try dsimp only at H)
   have A43 := Aside0.mk A430
   clear A430
   simp only [Option.some.injEq, Prod.mk.injEq] at H
   obtain ⟨rfl, rfl, rfl, rfl⟩ := H
   go_wp2_with (first | ((with_reducible refine bg_ (N := 28) rfl ?_); refine Kd.R_lit Kd.string _ 9 ?hg (N := 28) ?hd (xs := ([(⟨#[]⟩ : ByteArray), (⟨#[65]⟩ : ByteArray)] : List ByteArray)) (inner := [.string (⟨#[]⟩ : ByteArray), .string (⟨#[65]⟩ : ByteArray)]) (ok := fun _ => True) (okp := fun _ => True) ?hr ?hp (fun _ hk => hk) trivial (Below.refl _ _) (Nat.le_refl _) (by simp) ?_; (case hd => rfl); (case hg => rfl); (case hr => (go_simp; try rfl)); (case hp => exact (Reps.one (show Kd.M Kd.string _ _ _ (⟨#[]⟩ : ByteArray) [.string (⟨#[]⟩ : ByteArray)] from rfl) (Reps.one (show Kd.M Kd.string _ _ _ (⟨#[65]⟩ : ByteArray) [.string (⟨#[65]⟩ : ByteArray)] from rfl) (Reps.none _ _)))); intro v129 w44 ho45 hb hg_ hnew_; clear hg_ hnew_; (first | rw [← Ny128.out] at ho45 | (simp only [Int.reduceToNat] at ho45; rw [← Ny128.out] at ho45)); replace HO111 := Aside0.mk (Kd.cc_ (rz HO111.out) hb); have HO130 := Aside0.mk (Kd.bM_ (Kd.R_new' ho45 (Kd.R_lt (rz HO104.out))) (be_ (w := w) (g := g) (row := none) (by repeat (first | (with_reducible first | exact HK.out | apply ae_.set_ | apply ah_ | apply ao_ | apply ai_ | refine aS_ ?_ GW101.out _ | refine aS_ ?_ GW114.out _) | exact HK.out)))); replace HO104 := Aside0.mk (Kd.cA_ (rz HO104.out) (Kd.cr_ ho45) hb); replace BK101 := Aside0.mk (ag_ (kz BK101.out) hb); replace BK114 := Aside0.mk (ag_ (kz BK114.out) hb); replace HK := Aside0.mk (ae_.trans (by repeat (first | (with_reducible first | exact HK.out | apply ae_.set_ | apply ah_ | apply ao_ | apply ai_ | refine aS_ ?_ GW101.out _ | refine aS_ ?_ GW114.out _) | exact HK.out)) (ae_.of_below hb g none) (.inl rfl)); replace HB := Aside0.mk (am_ (by repeat (first | (with_reducible first | exact HB.out | apply bA_ | apply bN_ | apply bD_ | refine ad_ ?_ (aa_.ge HI0.out) | refine ad_ ?_ GE101.out | refine ad_ ?_ GE114.out) | exact HB.out)) hb); replace HI0 := Aside0.mk (aa_.below (by repeat (first | (with_reducible first | exact HI0.out | apply aa_.alloc | apply aa_.drewN | apply aa_.drew | apply aa_.set_1 | apply aa_.set_2 | refine aa_.far ?_ NB0_101.out _ | refine aa_.far ?_ NB0_114.out _) | exact HI0.out)) hb); clear hb ho45; obtain ⟨Ao46, co46, eo46⟩ := Kd.bP_ HO130.out; subst eo46) | ((with_reducible refine av_ (f := 91) rfl ?_); refine bo_ (some 29) rfl rfl Try.func91 (by kernel_rfl) rfl #[.pointer (some ⟨g, 0, none⟩), .slice Ao46 y128.length co46] rfl (by first | rfl | (simp only [lma_, lmc_, lmn_]; first | done | rfl)) ?_; (with_reducible refine (bs_.calls g s0_0 t116 t117 _ _ y128 t131 t132 t133 w0 _ ?side1 ?side2 ?side3 ?side4 ?side5 A43.out).mono ?_); (case side1 => repeat (first | (with_reducible first | exact HI0.out | apply aa_.alloc | apply aa_.drewN | apply aa_.drew | apply aa_.set_1 | apply aa_.set_2 | refine aa_.far ?_ NB0_101.out _ | refine aa_.far ?_ NB0_114.out _) | exact HI0.out)); (case side2 => repeat (first | (with_reducible first | exact HB.out | apply bA_ | apply bN_ | apply bD_ | refine ad_ ?_ (aa_.ge HI0.out) | refine ad_ ?_ GE101.out | refine ad_ ?_ GE114.out) | exact HB.out)); (case side3 => exact cz (Kd.aD_ HO130.out).2.2); (case side4 => exact (Kd.aD_ HO130.out).2.1); (case side5 => exact far_slice (aa_.own_ne HI0.out HO130.out (by decide))); rintro e w47 ⟨rfl, hi, hb, hk⟩; refine ⟨_, rfl, ?_⟩; replace BK101 := Aside0.mk (ae_.blk hk (g' := gb101) (o := .cells #[.string (⟨#[]⟩ : ByteArray), .slice none 0 0] 28 (0, 0)) (kz BK101.out) NB101_0.out (by simp)); replace HO104 := Aside0.mk (Kd.bp_ (Kd.cw_ (aa_.apart (show aa_ w0 _ g s0_0 t116 t117 from by repeat (first | (with_reducible first | exact HI0.out | apply aa_.alloc | apply aa_.drewN | apply aa_.drew | apply aa_.set_1 | apply aa_.set_2 | refine aa_.far ?_ NB0_101.out _ | refine aa_.far ?_ NB0_114.out _) | exact HI0.out)) (rz HO104.out) (by decide)) hk (fun _ h => h.2)) (fun _ h => h.1)); replace HO111 := Aside0.mk (Kd.bp_ (Kd.cw_ (aa_.apart (show aa_ w0 _ g s0_0 t116 t117 from by repeat (first | (with_reducible first | exact HI0.out | apply aa_.alloc | apply aa_.drewN | apply aa_.drew | apply aa_.set_1 | apply aa_.set_2 | refine aa_.far ?_ NB0_101.out _ | refine aa_.far ?_ NB0_114.out _) | exact HI0.out)) (rz HO111.out) (by decide)) hk (fun _ h => h.2)) (fun _ h => h.1)); replace BK114 := Aside0.mk (ae_.blk hk (g' := gb114) (o := .cells #[.string t108, .slice Ao16 t109.length co16] 28 (0, 0)) (kz BK114.out) NB114_0.out (by simp)); replace HO130 := Aside0.mk (Kd.bp_ (Kd.cw_ (aa_.apart (show aa_ w0 _ g s0_0 t116 t117 from by repeat (first | (with_reducible first | exact HI0.out | apply aa_.alloc | apply aa_.drewN | apply aa_.drew | apply aa_.set_1 | apply aa_.set_2 | refine aa_.far ?_ NB0_101.out _ | refine aa_.far ?_ NB0_114.out _) | exact HI0.out)) (rz HO130.out) (by decide)) hk (fun _ h => h.2)) (fun _ h => h.1)); replace HK := Aside0.mk (ae_.trans (by repeat (first | (with_reducible first | exact HK.out | apply ae_.set_ | apply ah_ | apply ao_ | apply ai_ | refine aS_ ?_ GW101.out _ | refine aS_ ?_ GW114.out _) | exact HK.out)) hk (.inl rfl)); replace HB := Aside0.mk (hb); replace HI0 := Aside0.mk (hi); (try clear hb); have hnb48 := NB114_101.out; have hnc48 := NB101_114.out; have hnb49 := NB114_0.out; have hnc49 := NB0_114.out; obtain ⟨hcz50_0, hcz50_1⟩ := cz2_ BK114.out; obtain ⟨hfz50_0, hfz50_1⟩ := fz2_ BK114.out; have hnb51 := NB101_0.out; have hnc51 := NB0_101.out; obtain ⟨hcz52_0, hcz52_1⟩ := cz2_ BK101.out; obtain ⟨hfz52_0, hfz52_1⟩ := fz2_ BK101.out))
   refine bodyPost_ret (results_cell_row rfl _ _ gb101 28 #[.string t131, .slice Ao16 t109.length co16] (0, 0) _ rfl (by exact kj2_1 (kj2_0 (kf (kz BK101.out) NB101_114.out))) Try.underlying28 rfl (by kernel_rfl)) rfl ?_
   exact ⟨_, by first | rfl | (simp [*, aH_, aG_] <;> rfl), Kd.Q_of_R (rz (Kd.bp_ (Kd.R_far (p := ⟨gb101, 1, none⟩) (Kd.R_far (p := ⟨gb101, 0, none⟩) (Kd.R_far (p := ⟨gb114, 0, none⟩) (Kd.cx_ (Kd.cx_ HO111.out BK114.out (by decide)) BK101.out (by decide)) (fun _ hk => hk.1.2) (.string t131)) (fun _ hk => hk.2) (.string t131)) (fun _ hk => hk.2) (.slice Ao16 t109.length co16)) (fun _ hk => trivial))), by repeat (first | (with_reducible first | exact HI0.out | apply aa_.alloc | apply aa_.drewN | apply aa_.drew | apply aa_.set_1 | apply aa_.set_2 | refine aa_.far ?_ NB0_101.out _ | refine aa_.far ?_ NB0_114.out _) | exact HI0.out), by repeat (first | (with_reducible first | exact HB.out | apply bA_ | apply bN_ | apply bD_ | refine ad_ ?_ (aa_.ge HI0.out) | refine ad_ ?_ GE101.out | refine ad_ ?_ GE114.out) | exact HB.out), by repeat (first | (with_reducible first | exact HK.out | apply ae_.set_ | apply ah_ | apply ao_ | apply ai_ | refine aS_ ?_ GW101.out _ | refine aS_ ?_ GW114.out _) | exact HK.out)⟩
  rw [if_pos c34] at H
  have c34b0 : (t115 == 1) = true := beq_iff_eq.mpr c34
  have c34b1 : (t115 != 1) = false := bne_eq_false_iff_eq.mpr c34
  clear c34
  by_cases c35 : 1 ≤ (t109.length : Int)
  rotate_left
  ·rw [if_neg c35] at H
   exact absurd H (by simp)
  rw [if_pos c35] at H
  have c35b0 := eq_true c35
  have c35b1 : decide (1 ≤ (t109.length : Int)) = true := decide_eq_true c35
  clear c35
  obtain ⟨y125, hy125⟩ : ∃ y_ : List Int, y_ = (t109.drop (1 : Int).toNat) := ⟨_, rfl⟩
  replace H : (some (t108, y125, t116, t117)) = some (r1, r2, r3, r4) := by first | (rw [hy125]; with_reducible exact H) | (have H2_ := (Option.bind_some _ _).symm.trans H; rw [hy125]; with_reducible exact H2_) | (have H2_ := (Option.bind_some _ _).symm.trans H; with_reducible exact H2_) | with_reducible exact H | (rw [hy125]; exact H) | exact H
  have Ny125 := Aside0.mk hy125
  clear hy125
  simp only [Option.some.injEq, Prod.mk.injEq] at H
  obtain ⟨rfl, rfl, rfl, rfl⟩ := H
  have hnb36 := NB114_101.out
  have hnc36 := NB101_114.out
  have hnb37 := NB114_0.out
  have hnc37 := NB0_114.out
  obtain ⟨hcz38_0, hcz38_1⟩ := cz2_ BK114.out
  obtain ⟨hfz38_0, hfz38_1⟩ := fz2_ BK114.out
  have q39 : (1 : Int) ≤ ((t109.length : Int) : Int) := of_decide_eq_true (by assumption)
  obtain ⟨i039, hi039, _, hsz39, _⟩ := info_parts info2
  have hcut39 := cut_from (P := Try.prog) 22 2 .i64 Try.underlying22 hi039 1 hsz39 Ao16 t109.length co16 1 (by omega) q39
  have hr39 := Kd.Q_drop (k := (1 : Int).toNat) (Kd.Q_of_R HO111.out) (by omega)
  obtain ⟨A39, hA39⟩ : ∃ A1, A1 = (if co16 = (1 : Int).toNat then Ao16 else (Ao16 : Option Addr).map (·.add ((1 : Int).toNat * 1))) := ⟨_, rfl⟩
  obtain ⟨c39, hc39⟩ : ∃ c1, c1 = co16 - (1 : Int).toNat := ⟨_, rfl⟩
  have hy39 : y125.length = t109.length - (1 : Int).toNat := (by rw [Ny125.out, List.length_drop])
  rw [← Ny125.out] at hr39
  rw [← hy39, ← hA39, ← hc39] at hcut39
  replace hr39 : Kd.Q (Kd.int .i64) 2 w17 w.heap.size (fun _ => True) (.slice A39 y125.length c39) y125 := (by rw [hA39, hc39, hy39]; exact hr39)
  have HE39 : Aside0 ((Value.slice A39 y125.length c39).ownBlock = (.slice Ao16 t109.length co16 : Value).ownBlock) := ⟨by rw [hA39]; split <;> (cases (Ao16 : Option Addr) <;> rfl)⟩
  clear hy39 hi039 hsz39 HO111 hA39 hc39
  have HO127 := Aside0.mk hr39
  clear hr39
  replace q39 := eq_true q39
  have hnb40 := NB101_0.out
  have hnc40 := NB0_101.out
  obtain ⟨hcz41_0, hcz41_1⟩ := cz2_ BK101.out
  obtain ⟨hfz41_0, hfz41_1⟩ := fz2_ BK101.out
  go_wp2
  refine bodyPost_ret (results_cell_row rfl _ _ gb101 28 #[.string t108, .slice A39 y125.length c39] (0, 0) _ rfl (by exact kj2_1 (kj2_0 (kf (kz BK101.out) NB101_114.out))) Try.underlying28 rfl (by kernel_rfl)) rfl ?_
  exact ⟨_, by first | rfl | (simp [*, aH_, aG_] <;> rfl), by (with_reducible repeat (first | apply Kd.ap_ | apply Kd.aq_ | apply Kd.as_)); exact Kd.bJ_ (Kd.Q_far (p := ⟨gb101, 1, none⟩) (Kd.Q_far (p := ⟨gb101, 0, none⟩) (Kd.Q_far (p := ⟨gb114, 1, none⟩) (Kd.bU_ (Kd.bU_ HO127.out BK114.out (by decide)) BK101.out (by decide)) (fun _ hk => hk.1.2) (.slice A39 y125.length c39)) (fun _ hk => hk.2) (.string t108)) (fun _ hk => hk.2) (.slice A39 y125.length c39)) (fun _ hk => trivial), by repeat (first | (with_reducible first | exact HI0.out | apply aa_.alloc | apply aa_.drewN | apply aa_.drew | apply aa_.set_1 | apply aa_.set_2 | refine aa_.far ?_ NB0_101.out _ | refine aa_.far ?_ NB0_114.out _) | exact HI0.out), by repeat (first | (with_reducible first | exact HB.out | apply bA_ | apply bN_ | apply bD_ | refine ad_ ?_ (aa_.ge HI0.out) | refine ad_ ?_ GE101.out | refine ad_ ?_ GE114.out) | exact HB.out), by repeat (first | (with_reducible first | exact HK.out | apply ae_.set_ | apply ah_ | apply ao_ | apply ai_ | refine aS_ ?_ GW101.out _ | refine aS_ ?_ GW114.out _) | exact HK.out)⟩
 rw [if_pos c18] at H
 have c18b0 : (t115 == 0) = true := beq_iff_eq.mpr c18
 have c18b1 : (t115 != 0) = false := bne_eq_false_iff_eq.mpr c18
 clear c18
 (first | rw [c18b0] | (simp only [i64_w, i32_w]; rw [c18b0]) | (simp only [c18b1, Bool.not_true, Bool.not_false]) | (simp only [c18b0, Bool.not_true, Bool.not_false]) | skip)
 obtain ⟨y118, hy118⟩ : ∃ y_ : List Int, y_ = (([(-1), 255, 256] : List Int)) := ⟨_, rfl⟩
 replace H : ((bc_.f s0_0 t116 t117 y118).bind fun bt121 => (if 3 < (t109.length : Int) then (some (t108, (t109.set (3 : Int).toNat bt121.1), bt121.2.1, bt121.2.2)) else (none))) = some (r1, r2, r3, r4) := by first | (rw [hy118]; with_reducible exact H) | (have H2_ := (Option.bind_some _ _).symm.trans H; rw [hy118]; with_reducible exact H2_) | (have H2_ := (Option.bind_some _ _).symm.trans H; with_reducible exact H2_) | with_reducible exact H | (rw [hy118]; exact H) | exact H
 have Ny118 := Aside0.mk hy118
 clear hy118
 replace H := Option.bind_eq_some_iff.mp H
 obtain ⟨⟨t121, t122, t123⟩, A190, H⟩ := H
 (try dsimp only at H)
 have A19 := Aside0.mk A190
 clear A190
 by_cases c20 : 3 < (t109.length : Int)
 rotate_left
 ·rw [if_neg c20] at H
  exact absurd H (by simp)
 rw [if_pos c20] at H
 have c20b0 : decide (3 < (t109.length : Int)) = true := decide_eq_true c20
 have c20b1 : decide (3 < t109.length) = true := decide_eq_true (by omega)
 clear c20
 obtain ⟨y124, hy124⟩ : ∃ y_ : List Int, y_ = (t109.set (3 : Int).toNat t121) := ⟨_, rfl⟩
 replace H : (some (t108, y124, t122, t123)) = some (r1, r2, r3, r4) := by first | (rw [hy124]; with_reducible exact H) | (have H2_ := (Option.bind_some _ _).symm.trans H; rw [hy124]; with_reducible exact H2_) | (have H2_ := (Option.bind_some _ _).symm.trans H; with_reducible exact H2_) | with_reducible exact H | (rw [hy124]; exact H) | exact H
 have Ny124 := Aside0.mk hy124
 clear hy124
 simp only [Option.some.injEq, Prod.mk.injEq] at H
 obtain ⟨rfl, rfl, rfl, rfl⟩ := H
 try go_wp2
 (try (rw [ce_ w17]; generalize hq_ : World.drewN w17 _ = w17; have n0_ : Aside0 (Kd.R Kd.string 9 w17 w.heap.size (fun k_ => True) (.slice Ao9 y102.length co9) y102) := ⟨by rw [← hq_]; exact (rz HO104.out)⟩; have n1_ : Aside0 (Kd.R (Kd.int .i64) 2 w17 w.heap.size (fun k_ => True) (.slice Ao16 t109.length co16) t109) := ⟨by rw [← hq_]; exact (rz HO111.out)⟩; have n2_ : Aside0 (w17.heap[gb101]? = some (.cells #[.string (⟨#[]⟩ : ByteArray), .slice none 0 0] 28 (0, 0))) := ⟨by rw [← hq_]; exact (kz BK101.out)⟩; have n3_ : Aside0 (w17.heap[gb114]? = some (.cells #[.string t108, .slice Ao16 t109.length co16] 28 (0, 0))) := ⟨by rw [← hq_]; exact (kz BK114.out)⟩; have n4_ : Aside0 (aa_ w0 w17 g s0_0 t116 t117) := ⟨by rw [← hq_]; exact (by repeat (first | (with_reducible first | exact HI0.out | apply aa_.alloc | apply aa_.drewN | apply aa_.drew | apply aa_.set_1 | apply aa_.set_2 | refine aa_.far ?_ NB0_101.out _ | refine aa_.far ?_ NB0_114.out _) | exact HI0.out))⟩; have n5_ : Aside0 (ae_ w w17 g none) := ⟨by rw [← hq_]; exact (by repeat (first | (with_reducible first | exact HK.out | apply ae_.set_ | apply ah_ | apply ao_ | apply ai_ | refine aS_ ?_ GW101.out _ | refine aS_ ?_ GW114.out _) | exact HK.out))⟩; have n6_ : Aside0 (Below w0.heap.size w0 w17) := ⟨by rw [← hq_]; exact (by repeat (first | (with_reducible first | exact HB.out | apply bA_ | apply bN_ | apply bD_ | refine ad_ ?_ (aa_.ge HI0.out) | refine ad_ ?_ GE101.out | refine ad_ ?_ GE114.out) | exact HB.out))⟩; clear HO104 HO111 BK101 BK114 HI0 HK HB hq_; have HO104 := n0_; have HO111 := n1_; have BK101 := n2_; have BK114 := n3_; have HI0 := n4_; have HK := n5_; have HB := n6_; clear n0_ n1_ n2_ n3_ n4_ n5_ n6_))
 have n0_ := Aside0.mk (Kd.cu_ HO104.out)
 have n1_ := Aside0.mk (Kd.cu_ HO111.out)
 have n2_ := Aside0.mk (ay_ BK101.out)
 have n3_ := Aside0.mk (ay_ BK114.out)
 have n4_ := Aside0.mk (aa_.drew HI0.out)
 have n5_ := Aside0.mk (ao_ HK.out)
 have n6_ := Aside0.mk (bD_ HB.out)
 clear HO104
 clear HO111
 clear BK101
 clear BK114
 clear HI0
 clear HK
 clear HB
 have HO104 := n0_
 have HO111 := n1_
 have BK101 := n2_
 have BK114 := n3_
 have HI0 := n4_
 have HK := n5_
 have HB := n6_
 clear n0_ n1_ n2_ n3_ n4_ n5_ n6_
 refine cv_ (n := 7) (S := fun w' => w'.cell? ⟨gb114, 0, none⟩ = some (.string t108) ∧ w'.cell? ⟨gb114, 1, none⟩ = some (.slice Ao16 t109.length co16)) (ds := [6]) #[f_,f_,f_,f_,f_,f_,f_] (by kernel_rfl) rfl rfl ⟨(aM_ BK114.out 0).trans rfl, (aM_ BK114.out 1).trans rfl⟩ (fun hHeld => ?_)
 generalize w17.drew = w22 at HO104 HO111 BK101 BK114 HI0 HK HB hHeld ⊢
 refine pure_ (i := 0) (N := some 13) (v := ?_) (a' := ?_) #[t_,f_,f_,f_,f_,f_,f_] rfl rfl (by kernel_rfl) (fun _ _ _ h => h) (Or.inl ⟨by rfl, ?_⟩) ?_ ?_
 rotate_left
 ·intro w'
  go_simp
  with_reducible rfl
 rotate_left
 ·simp only [Act.put, lsa_, ls0_, ls1_, i64_w, i32_w]
  rfl
 refine pure_ (i := 2) (N := some 15) (v := ?_) (a' := ?_) #[t_,f_,t_,f_,f_,f_,f_] rfl rfl (by kernel_rfl) (fun _ _ _ h => h) (Or.inl ⟨by rfl, ?_⟩) ?_ ?_
 rotate_left
 ·intro w'
  go_simp
  with_reducible rfl
 rotate_left
 ·simp only [Act.put, lsa_, ls0_, ls1_, i64_w, i32_w]
  rfl
 refine take_ (i := 1) (N := some 14) (v := ?_) (a' := ?_) #[t_,t_,t_,f_,f_,f_,f_] rfl rfl (by kernel_rfl) (fun _ _ _ h => h) (Or.inl ⟨by rfl, ?_⟩) hHeld ?_ ?_
 rotate_left
 ·rintro w' ⟨s0, s1⟩
  go_simp
  with_reducible rfl
 rotate_left
 ·simp only [Act.put, lsa_, ls0_, ls1_, i64_w, i32_w]
  rfl
 refine one_ (i := 3) (N := some 16) #[t_,t_,t_,t_,f_,f_,f_] rfl rfl (by kernel_rfl) (by decide) (fun K hK => ?_)
 refine Kd.R_lit_step (Kd.int .i64) _ 2 ?hg (N := 16) ?hd (xs := ([(-1), 255, 256] : List Int)) (inner := [.int .i64 (-1), .int .i64 255, .int .i64 256]) (ok := fun _ => True) (okp := fun _ => True) ?hr ?hp (fun _ hk => hk) trivial (Below.refl _ _) (Nat.le_refl _) (by simp) ?_; (case hd => rfl); (case hg => rfl); (case hr => (go_simp; try rfl)); (case hp => exact (Reps.one (show Kd.M (Kd.int .i64) _ _ _ (-1) [.int .i64 (-1)] from rfl) (Reps.one (show Kd.M (Kd.int .i64) _ _ _ 255 [.int .i64 255] from rfl) (Reps.one (show Kd.M (Kd.int .i64) _ _ _ 256 [.int .i64 256] from rfl) (Reps.none _ _)))))
 intro v119 w23 ho24 hb hg_ hnew_
 clear hg_ hnew_
 (first | rw [← Ny118.out] at ho24 | (simp only [Int.reduceToNat] at ho24; rw [← Ny118.out] at ho24))
 have n0_ := Aside0.mk (Kd.cc_ (rz HO104.out) hb)
 have n1_ := Aside0.mk (Kd.cA_ (rz HO111.out) (Kd.cr_ ho24) hb)
 have n2_ := Aside0.mk (Kd.bM_ (Kd.R_new' ho24 (Kd.R_lt (rz HO111.out))) (be_ (w := w) (g := g) (row := none) (by repeat (first | (with_reducible first | exact HK.out | apply ae_.set_ | apply ah_ | apply ao_ | apply ai_ | refine aS_ ?_ GW101.out _ | refine aS_ ?_ GW114.out _) | exact HK.out))))
 have n3_ := Aside0.mk (aa_.below (by repeat (first | (with_reducible first | exact HI0.out | apply aa_.alloc | apply aa_.drewN | apply aa_.drew | apply aa_.set_1 | apply aa_.set_2 | refine aa_.far ?_ NB0_101.out _ | refine aa_.far ?_ NB0_114.out _) | exact HI0.out)) hb)
 have n4_ := Aside0.mk (ag_ (kz BK101.out) hb)
 have n5_ := Aside0.mk (ag_ (kz BK114.out) hb)
 have n6_ := Aside0.mk (ae_.trans (by repeat (first | (with_reducible first | exact HK.out | apply ae_.set_ | apply ah_ | apply ao_ | apply ai_ | refine aS_ ?_ GW101.out _ | refine aS_ ?_ GW114.out _) | exact HK.out)) (ae_.of_below hb g none) (.inl rfl))
 have n7_ := Aside0.mk (am_ (by repeat (first | (with_reducible first | exact HB.out | apply bA_ | apply bN_ | apply bD_ | refine ad_ ?_ (aa_.ge HI0.out) | refine ad_ ?_ GE101.out | refine ad_ ?_ GE114.out) | exact HB.out)) hb)
 clear HO104
 clear HO111
 clear HI0
 clear BK101
 clear BK114
 clear HK
 clear HB
 have HO104 := n0_
 have HO111 := n1_
 have HO120 := n2_
 have HI0 := n3_
 have BK101 := n4_
 have BK114 := n5_
 have HK := n6_
 have HB := n7_
 clear n0_ n1_ n2_ n3_ n4_ n5_ n6_ n7_
 clear hb ho24
 obtain ⟨Ao25, co25, eo25⟩ := Kd.bP_ HO120.out
 (first | subst eo25 | (injection eo25 with f1_ f2_ f3_; have f4_ := f1_.symm; have f5_ := f3_.symm; clear f1_ f2_ f3_; subst f4_; subst f5_))
 refine hK.out _ _ ⟨(aM_ BK114.out 0).trans rfl, (aM_ BK114.out 1).trans rfl⟩ (fun hHeld => ?_)
 clear hK K
 refine norm_ (a' := ?_) ?_ ?_
 rotate_left
 ·show Act.put _ (some 16) _ = _
  simp only [Act.put, lsa_, ls0_, ls1_, i64_w, i32_w]
  rfl
 refine one_ (i := 4) (N := some 17) #[t_,t_,t_,t_,t_,f_,f_] rfl rfl (by kernel_rfl) (by decide) (fun K hK => ?_)
 (first | refine goes_ Try.func93 (by kernel_rfl) rfl #[.pointer (some ⟨g, 0, none⟩), .slice Ao25 y118.length co25] (by rfl) rfl rfl (by first | rfl | (simp only [lma_, lmc_, lmn_]; first | done | rfl)) ?_ | refine RPW.cC_ Try.func93 (by kernel_rfl) rfl #[.pointer (some ⟨g, 0, none⟩), .slice Ao25 y118.length co25] (by rfl) rfl rfl rfl (by first | rfl | (simp only [lma_, lmc_, lmn_]; first | done | rfl)) ?_ | refine RPW.cB_ Try.func93 (by kernel_rfl) rfl #[.pointer (some ⟨g, 0, none⟩), .slice Ao25 y118.length co25] (by rfl) rfl rfl rfl (by first | rfl | (simp only [lma_, lmc_, lmn_]; first | done | rfl)) ?_)
 with_reducible refine (bc_.calls g s0_0 t116 t117 _ _ y118 t121 t122 t123 w0 _ ?side1 ?side2 ?side3 ?side4 ?side5 A19.out).mono ?_
 (case side1 => repeat (first | (with_reducible first | exact HI0.out | apply aa_.alloc | apply aa_.drewN | apply aa_.drew | apply aa_.set_1 | apply aa_.set_2 | refine aa_.far ?_ NB0_101.out _ | refine aa_.far ?_ NB0_114.out _) | exact HI0.out))
 (case side2 => repeat (first | (with_reducible first | exact HB.out | apply bA_ | apply bN_ | apply bD_ | refine ad_ ?_ (aa_.ge HI0.out) | refine ad_ ?_ GE101.out | refine ad_ ?_ GE114.out) | exact HB.out))
 (case side3 => exact cz (Kd.aD_ HO120.out).2.2)
 (case side4 => exact (Kd.aD_ HO120.out).2.1)
 (case side5 => exact far_slice (aa_.own_ne HI0.out HO120.out (by decide)))
 rintro e w26 ⟨rfl, hi, hb, hk⟩
 refine ⟨_, rfl, ?_⟩
 have n0_ := Aside0.mk (ae_.blk hk (g' := gb101) (o := .cells #[.string (⟨#[]⟩ : ByteArray), .slice none 0 0] 28 (0, 0)) (kz BK101.out) NB101_0.out (by simp))
 have n1_ := Aside0.mk (Kd.bp_ (Kd.cw_ (aa_.apart (show aa_ w0 _ g s0_0 t116 t117 from by repeat (first | (with_reducible first | exact HI0.out | apply aa_.alloc | apply aa_.drewN | apply aa_.drew | apply aa_.set_1 | apply aa_.set_2 | refine aa_.far ?_ NB0_101.out _ | refine aa_.far ?_ NB0_114.out _) | exact HI0.out)) (rz HO104.out) (by decide)) hk (fun _ h => h.2)) (fun _ h => h.1))
 have n2_ := Aside0.mk (Kd.bp_ (Kd.cw_ (aa_.apart (show aa_ w0 _ g s0_0 t116 t117 from by repeat (first | (with_reducible first | exact HI0.out | apply aa_.alloc | apply aa_.drewN | apply aa_.drew | apply aa_.set_1 | apply aa_.set_2 | refine aa_.far ?_ NB0_101.out _ | refine aa_.far ?_ NB0_114.out _) | exact HI0.out)) (rz HO111.out) (by decide)) hk (fun _ h => h.2)) (fun _ h => h.1))
 have n3_ := Aside0.mk (ae_.blk hk (g' := gb114) (o := .cells #[.string t108, .slice Ao16 t109.length co16] 28 (0, 0)) (kz BK114.out) NB114_0.out (by simp))
 have n4_ := Aside0.mk (Kd.bp_ (Kd.cw_ (aa_.apart (show aa_ w0 _ g s0_0 t116 t117 from by repeat (first | (with_reducible first | exact HI0.out | apply aa_.alloc | apply aa_.drewN | apply aa_.drew | apply aa_.set_1 | apply aa_.set_2 | refine aa_.far ?_ NB0_101.out _ | refine aa_.far ?_ NB0_114.out _) | exact HI0.out)) (rz HO120.out) (by decide)) hk (fun _ h => h.2)) (fun _ h => h.1))
 have n5_ := Aside0.mk (ae_.trans (by repeat (first | (with_reducible first | exact HK.out | apply ae_.set_ | apply ah_ | apply ao_ | apply ai_ | refine aS_ ?_ GW101.out _ | refine aS_ ?_ GW114.out _) | exact HK.out)) hk (.inl rfl))
 have n6_ := Aside0.mk (hb)
 have n7_ := Aside0.mk (hi)
 clear BK101
 clear HO104
 clear HO111
 clear BK114
 clear HO120
 clear HK
 clear HB
 clear HI0
 have BK101 := n0_
 have HO104 := n1_
 have HO111 := n2_
 have BK114 := n3_
 have HO120 := n4_
 have HK := n5_
 have HB := n6_
 have HI0 := n7_
 clear n0_ n1_ n2_ n3_ n4_ n5_ n6_ n7_
 (try clear hb)
 have p21 : 0 ≤ (3 : Int) := (by omega)
 have q21 : (3 : Int) < ((t109.length : Int) : Int) := of_decide_eq_true (by assumption)
 have qi21 : (3 < t109.length) = True := eq_true (by omega)
 obtain ⟨go21, co21, eo21, gb21, gl21, cl21, HG21⟩ := Kd.R_form HO111.out (by omega)
 (first | cases eo21 | (injection eo21 with ea_ en_ ec_; (first | subst ea_ | (injection ea_ with ea_; subst ea_)); subst ec_; clear en_))
 have GB21 := Aside0.mk gb21
 have GG21 := Aside0.mk HG21
 clear gb21 gl21 HG21
 obtain ⟨hx21_0, hf21_0⟩ := Kd.R_celln 0 HO111.out (3 : Int) p21 q21
 (try rw [show ((3 : Int)).toNat = 3 from rfl] at hx21_0)
 (try simp only [Nat.reduceMul, Nat.zero_mul, Nat.zero_add, Nat.reduceAdd] at hx21_0)
 (try rw [show ((3 : Int)).toNat = 3 from rfl] at hf21_0)
 (try simp only [Nat.reduceMul, Nat.zero_mul, Nat.zero_add, Nat.reduceAdd] at hf21_0)
 replace p21 := eq_true p21
 replace q21 := eq_true q21
 have HN0_go21 := Aside0.mk (show g ≠ go21 from by have h_ := aa_.own_ne HI0.out HO111.out (by decide); intro e_; exact h_ (by rw [e_]; rfl))
 have HP27 := Kd.R_putn HO111.out (3 : Int) t121
 rw [← Ny124.out] at HP27
 have HQ27 := Aside0.mk HP27
 clear HP27
 refine hK.out _ _ ⟨(aM_ BK114.out 0).trans rfl, (aM_ BK114.out 1).trans rfl⟩ (fun hHeld => ?_)
 clear hK K
 refine norm_ (a' := ?_) ?_ ?_
 rotate_left
 ·show Act.put _ (some 17) _ = _
  simp only [Act.put, lsa_, ls0_, ls1_, i64_w, i32_w]
  rfl
 refine pure_ (i := 5) (N := some 18) (v := ?_) (a' := ?_) #[t_,t_,t_,t_,t_,t_,f_] rfl rfl (by kernel_rfl) (fun _ _ _ h => h) (Or.inl ⟨by rfl, ?_⟩) ?_ ?_
 rotate_left
 ·intro w'
  go_simp
  with_reducible rfl
 rotate_left
 ·simp only [Act.put, lsa_, ls0_, ls1_, i64_w, i32_w]
  rfl
 refine last_ (i := 6) (N := none) #[t_,t_,t_,t_,t_,t_,t_] rfl rfl (by kernel_rfl) (by decide) (fun K hK => ?_)
 refine skip_ (w1 := ?_) (by rfl) rfl ?_ ?_
 rotate_left
 ·go_simp
  rfl
 refine hK.out _ _ ?_
 clear hK K
 refine done_ (by kernel_rfl) ?_
 have n0_ : Aside0 (Kd.R Kd.string 9 (w26.setCell ⟨go21, 3, none⟩ (.int .i64 t121)) w.heap.size (fun _ => True) (.slice Ao9 y102.length co9) y102) := ⟨rz (Kd.bp_ (Kd.R_far (p := ⟨go21, 3, none⟩) (Kd.cx_ HO104.out GG21.out (by decide)) (fun _ hk => hk.2) (.int .i64 t121)) (fun _ hk => trivial))⟩
 have n1_ : Aside0 (Kd.R (Kd.int .i64) 2 (w26.setCell ⟨go21, 3, none⟩ (.int .i64 t121)) w.heap.size (fun k_ => some k_ ≠ (.slice Ao25 y118.length co25 : Value).ownBlock) (.slice (some ⟨go21, 0, none⟩) t109.length co16) y124) := ⟨rz (Kd.bp_ HQ27.out (fun _ hk => hk.2))⟩
 have n2_ : Aside0 (Kd.R (Kd.int .i64) 2 (w26.setCell ⟨go21, 3, none⟩ (.int .i64 t121)) w.heap.size (fun k_ => some k_ ≠ (.slice (some ⟨go21, 0, none⟩) t109.length co16 : Value).ownBlock) (.slice Ao25 y118.length co25) y118) := ⟨rz (Kd.bp_ (Kd.R_far (p := ⟨go21, 3, none⟩) (Kd.bp_ HO120.out (fun k_ hk => (⟨hk, fun e_ => hk.2 (by rw [e_]; rfl)⟩ : _ ∧ k_ ≠ go21))) (fun _ hk => hk.2) (.int .i64 t121)) (fun _ hk => hk.1.2))⟩
 have n3_ : Aside0 ((w26.setCell ⟨go21, 3, none⟩ (.int .i64 t121)).heap[gb101]? = some (.cells #[.string (⟨#[]⟩ : ByteArray), .slice none 0 0] 28 (0, 0))) := ⟨by exact kf (kz BK101.out) (by have h_ := Kd.R_ne HO111.out BK101.out (by decide); intro e_; exact h_ (by rw [e_]; rfl))⟩
 have n4_ : Aside0 ((w26.setCell ⟨go21, 3, none⟩ (.int .i64 t121)).heap[gb114]? = some (.cells #[.string t108, .slice (some ⟨go21, 0, none⟩) t109.length co16] 28 (0, 0))) := ⟨by exact kf (kz BK114.out) (by have h_ := Kd.R_ne HO111.out BK114.out (by decide); intro e_; exact h_ (by rw [e_]; rfl))⟩
 have n5_ : Aside0 (aa_ w0 (w26.setCell ⟨go21, 3, none⟩ (.int .i64 t121)) g s0_0 t122 t123) := ⟨by repeat (first | (with_reducible first | exact HI0.out | apply aa_.alloc | apply aa_.drewN | apply aa_.drew | apply aa_.set_1 | apply aa_.set_2 | refine aa_.far ?_ HN0_go21.out _ | refine aa_.far ?_ NB0_101.out _ | refine aa_.far ?_ NB0_114.out _) | exact HI0.out)⟩
 have n6_ : Aside0 (ae_ w (w26.setCell ⟨go21, 3, none⟩ (.int .i64 t121)) g none) := ⟨by repeat (first | (with_reducible first | exact HK.out | apply ae_.set_ | apply ah_ | apply ao_ | apply ai_ | refine aS_ ?_ GB21.out _ | refine aS_ ?_ GW101.out _ | refine aS_ ?_ GW114.out _) | exact HK.out)⟩
 have n7_ : Aside0 (Below w0.heap.size w0 (w26.setCell ⟨go21, 3, none⟩ (.int .i64 t121))) := ⟨by repeat (first | (with_reducible first | exact HB.out | apply bA_ | apply bN_ | apply bD_ | refine ad_ ?_ (Nat.le_trans HL.out GB21.out) | refine ad_ ?_ (aa_.ge HI0.out) | refine ad_ ?_ GE101.out | refine ad_ ?_ GE114.out) | exact HB.out)⟩
 (try clear HO104)
 (try clear HO111)
 (try clear HO120)
 (try clear BK101)
 (try clear BK114)
 (try clear HI0)
 (try clear HK)
 (try clear HB)
 generalize (w26.setCell ⟨go21, 3, none⟩ (.int .i64 t121)) = w28 at n0_ n1_ n2_ n3_ n4_ n5_ n6_ n7_ ⊢
 have HO104 := n0_
 have HO111 := n1_
 have HO120 := n2_
 have BK101 := n3_
 have BK114 := n4_
 have HI0 := n5_
 have HK := n6_
 have HB := n7_
 clear n0_ n1_ n2_ n3_ n4_ n5_ n6_ n7_
 have hnb29 := NB114_101.out
 have hnc29 := NB101_114.out
 have hnb30 := NB114_0.out
 have hnc30 := NB0_114.out
 obtain ⟨hcz31_0, hcz31_1⟩ := cz2_ BK114.out
 obtain ⟨hfz31_0, hfz31_1⟩ := fz2_ BK114.out
 have hnb32 := NB101_0.out
 have hnc32 := NB0_101.out
 obtain ⟨hcz33_0, hcz33_1⟩ := cz2_ BK101.out
 obtain ⟨hfz33_0, hfz33_1⟩ := fz2_ BK101.out
 try go_wp2
 refine bodyPost_ret (results_cell_row rfl _ _ gb101 28 #[.string t108, .slice (some ⟨go21, 0, none⟩) t109.length co16] (0, 0) _ rfl (by exact kj2_1 (kj2_0 (kz BK101.out))) Try.underlying28 rfl (by kernel_rfl)) rfl ?_
 exact ⟨_, by first | rfl | (simp [*, aH_, aG_] <;> rfl), Kd.Q_of_R (rz (Kd.bp_ (Kd.R_far (p := ⟨gb101, 1, none⟩) (Kd.R_far (p := ⟨gb101, 0, none⟩) (Kd.cx_ HO111.out BK101.out (by decide)) (fun _ hk => hk.2) (.string t108)) (fun _ hk => hk.2) (.slice (some ⟨go21, 0, none⟩) t109.length co16)) (fun _ hk => trivial))), by repeat (first | (with_reducible first | exact HI0.out | apply aa_.alloc | apply aa_.drewN | apply aa_.drew | apply aa_.set_1 | apply aa_.set_2 | refine aa_.far ?_ NB0_101.out _ | refine aa_.far ?_ NB0_114.out _) | exact HI0.out), by repeat (first | (with_reducible first | exact HB.out | apply bA_ | apply bN_ | apply bD_ | refine ad_ ?_ (aa_.ge HI0.out) | refine ad_ ?_ GE101.out | refine ad_ ?_ GE114.out) | exact HB.out), by repeat (first | (with_reducible first | exact HK.out | apply ae_.set_ | apply ah_ | apply ao_ | apply ai_ | refine aS_ ?_ GW101.out _ | refine aS_ ?_ GW114.out _) | exact HK.out)⟩
def by_.f (k : Nat) (l0 : List Int) : Option (ByteArray × List Int × ByteArray × List Int) := (ch_.f l0).bind fun bt103 => ((ba_.f k bt103.1 bt103.2.1 bt103.2.2).bind fun bt107 => ((ba_.f k bt103.1 bt107.2.2.1 bt107.2.2.2).bind fun bt114 => (some (bt107.1, bt107.2.1, bt114.1, bt114.2.1))))
set_option maxHeartbeats 8000000 in
set_option maxRecDepth 100000 in
theorem by_.calls (k : Nat) (A0 : Option Addr) (c0 : Nat) (l0 : List Int) (r1 : ByteArray) (r2 : List Int) (r3 : ByteArray) (r4 : List Int) (w : World) (hr0 : Kd.C (Kd.int .u8) w A0 l0.length l0) (hc0 : l0.length ≤ c0) (h : by_.f k l0 = some (r1, r2, r3, r4)) :
  Calls Try.prog 36 #[.slice A0 l0.length c0] w fun e w' => ∃ v1_ v3_ : Value, e = .returned (.tuple #[.agg #[.string r1, v1_], .agg #[.string r3, v3_]]) ∧ Kd.Q (Kd.int .i64) 2 w' w.heap.size (fun k_ => some k_ ≠ (v3_ : Value).ownBlock) v1_ r2 ∧ Kd.Q (Kd.int .i64) 2 w' w.heap.size (fun k_ => some k_ ≠ (v1_ : Value).ownBlock) v3_ r4 ∧ Below w.heap.size w w' := by
 have hu28 := Try.underlying28
 have HR0 := Aside0.mk hr0
 have HC0 := Aside0.mk hc0
 clear hr0 hc0
 have HB := Aside0.mk (Below.refl w.heap.size w)
 have H : ((ch_.f l0).bind fun bt103 => ((ba_.f k bt103.1 bt103.2.1 bt103.2.2).bind fun bt107 => ((ba_.f k bt103.1 bt107.2.2.1 bt107.2.2.2).bind fun bt114 => (some (bt107.1, bt107.2.1, bt114.1, bt114.2.1))))) = some (r1, r2, r3, r4) := h
 clear h
 replace H := Option.bind_eq_some_iff.mp H
 obtain ⟨⟨t103, t104, t105⟩, A20, H⟩ := H
 (try dsimp only at H)
 have A2 := Aside0.mk A20
 clear A20
 replace H := Option.bind_eq_some_iff.mp H
 obtain ⟨⟨t107, t108, t111, t112⟩, A30, H⟩ := H
 (try dsimp only at H)
 have A3 := Aside0.mk A30
 clear A30
 replace H := Option.bind_eq_some_iff.mp H
 obtain ⟨⟨t114, t115, t118, t119⟩, A40, H⟩ := H
 (try dsimp only at H)
 have A4 := Aside0.mk A40
 clear A40
 simp only [Option.some.injEq, Prod.mk.injEq] at H
 obtain ⟨rfl, rfl, rfl, rfl⟩ := H
 go_enter Try.func36, Try.ntmps36
 try go_wp2_with (first | ((with_reducible refine bg_ (N := 2) rfl ?_); refine bt_ ?hg (N := 2) ?hd (cs := #[.string (⟨#[]⟩ : ByteArray), .slice none 0 0]) (t := 28) ?hr ?_; (case hd => rfl); (case hg => rfl); (case hr => (go_simp; try rfl)); intro gb101 hg w5 hbox hb; have BK101 := Aside0.mk (hbox); have GW101 := Aside0.mk ((by rw [hg]; exact (aA_ (bz HB.out)) : w.heap.size ≤ gb101)); have GE101 := GW101; replace HB := Aside0.mk (am_ (bz HB.out) hb); clear hb hbox hg) | ((with_reducible refine bg_ (N := 3) rfl ?_); refine bt_ ?hg (N := 3) ?hd (cs := #[.string (⟨#[]⟩ : ByteArray), .slice none 0 0]) (t := 28) ?hr ?_; (case hd => rfl); (case hg => rfl); (case hr => (go_simp; try rfl)); intro gb102 hg w6 hbox hb; have BK102 := Aside0.mk (hbox); have GW102 := Aside0.mk ((by rw [hg]; exact (aA_ (bq)) : w.heap.size ≤ gb102)); have GE102 := GW102; replace HB := Aside0.mk (am_ (bq) hb); have NB101_102 := Aside0.mk ((by rw [hg]; exact Nat.ne_of_lt (bX_ (kz BK101.out)) : gb101 ≠ gb102)); have NB102_101 := Aside0.mk ((by rw [hg]; exact Nat.ne_of_gt (bX_ (kz BK101.out)) : gb102 ≠ gb101)); replace BK101 := Aside0.mk (ag_ (kz BK101.out) hb); clear hb hbox hg) | ((with_reducible refine av_ (f := 69) rfl ?_); refine bo_ (some 7) rfl rfl Try.func69 (by kernel_rfl) rfl #[.slice A0 l0.length c0] rfl (by first | rfl | (simp only [lma_, lmc_, lmn_]; first | done | rfl)) ?_; (with_reducible refine (ch_.calls _ _ l0 t103 t104 t105 w _ ?side1 ?side2 ?side3 A2.out).mono ?_); (case side1 => repeat (first | (with_reducible first | exact HB.out | apply bA_ | apply bN_ | apply bD_ | refine ad_ ?_ GE101.out | refine ad_ ?_ GE102.out))); (case side2 => exact HR0.out); (case side3 => exact HC0.out); rintro e w7 ⟨g106, rfl, hi, hb, hb2⟩; refine ⟨_, rfl, ?_⟩; replace HB := Aside0.mk (hb); have HI106 := Aside0.mk (hi); have NB106_101 := Aside0.mk (aa_.ne_blk hi (ag_ (kz BK101.out) hb2) (by decide)); have NB101_106 := Aside0.mk (Ne.symm (aa_.ne_blk hi (ag_ (kz BK101.out) hb2) (by decide))); replace BK101 := Aside0.mk (ag_ (kz BK101.out) hb2); have NB106_102 := Aside0.mk (aa_.ne_blk hi (ag_ (kz BK102.out) hb2) (by decide)); have NB102_106 := Aside0.mk (Ne.symm (aa_.ne_blk hi (ag_ (kz BK102.out) hb2) (by decide))); replace BK102 := Aside0.mk (ag_ (kz BK102.out) hb2); (try clear hb)) | ((with_reducible refine av_ (f := 70) rfl ?_); refine bo_ (some 9) rfl rfl Try.func70 (by kernel_rfl) rfl #[.pointer (some ⟨g106, 0, none⟩)] rfl (by first | rfl | (simp only [lma_, lmc_, lmn_]; first | done | rfl)) ?_; (with_reducible refine (ba_.calls k g106 t103 t104 t105 t107 t108 t111 t112 w _ ?side1 ?side2 A3.out).mono ?_); (case side1 => repeat (first | (with_reducible first | exact HI106.out | apply aa_.alloc | apply aa_.drewN | apply aa_.drew | apply aa_.set_1 | apply aa_.set_2 | refine aa_.far ?_ NB106_101.out _ | refine aa_.far ?_ NB106_102.out _) | exact HI106.out)); (case side2 => repeat (first | (with_reducible first | exact HB.out | apply bA_ | apply bN_ | apply bD_ | refine ad_ ?_ (aa_.ge HI106.out) | refine ad_ ?_ GE101.out | refine ad_ ?_ GE102.out) | exact HB.out)); rintro e w8 ⟨v109, rfl, ho0, hi, hb, hk⟩; refine ⟨_, rfl, ?_⟩; replace BK101 := Aside0.mk (ae_.blk hk (g' := gb101) (o := .cells #[.string (⟨#[]⟩ : ByteArray), .slice none 0 0] 28 (0, 0)) (kz BK101.out) NB101_106.out (by simp)); replace BK102 := Aside0.mk (ae_.blk hk (g' := gb102) (o := .cells #[.string (⟨#[]⟩ : ByteArray), .slice none 0 0] 28 (0, 0)) (kz BK102.out) NB102_106.out (by simp)); have HO110 := Aside0.mk (Kd.Q_lower ho0 (aA_ (by repeat (first | (with_reducible first | exact HB.out | apply bA_ | apply bN_ | apply bD_ | refine ad_ ?_ (aa_.ge HI106.out) | refine ad_ ?_ GE101.out | refine ad_ ?_ GE102.out) | exact HB.out)))); replace HB := Aside0.mk (hb); replace HI106 := Aside0.mk (hi); (try clear hb); (try clear ho0)) | ((with_reducible refine bg_ (N := 5) rfl ?_); refine bt_ ?hg (N := 5) ?hd (cs := #[.string (⟨#[]⟩ : ByteArray), .slice none 0 0]) (t := 28) ?hr ?_; (case hd => rfl); (case hg => rfl); (case hr => (go_simp; try rfl)); intro gb113 hg w9 hbox hb; replace HO110 := Aside0.mk (Kd.aU_ (by (with_reducible repeat (first | apply Kd.ap_ | apply Kd.aq_ | apply Kd.as_)); exact HO110.out) hb); have BK113 := Aside0.mk (hbox); have GW113 := Aside0.mk ((by rw [hg]; exact (aA_ (by repeat (first | (with_reducible first | exact HB.out | apply bA_ | apply bN_ | apply bD_ | refine ad_ ?_ (aa_.ge HI106.out) | refine ad_ ?_ GE101.out | refine ad_ ?_ GE102.out) | exact HB.out))) : w.heap.size ≤ gb113)); have GE113 := GW113; replace HB := Aside0.mk (am_ (by repeat (first | (with_reducible first | exact HB.out | apply bA_ | apply bN_ | apply bD_ | refine ad_ ?_ (aa_.ge HI106.out) | refine ad_ ?_ GE101.out | refine ad_ ?_ GE102.out) | exact HB.out)) hb); have NB101_113 := Aside0.mk ((by rw [hg]; exact Nat.ne_of_lt (bX_ (kz BK101.out)) : gb101 ≠ gb113)); have NB113_101 := Aside0.mk ((by rw [hg]; exact Nat.ne_of_gt (bX_ (kz BK101.out)) : gb113 ≠ gb101)); replace BK101 := Aside0.mk (ag_ (kz BK101.out) hb); have NB102_113 := Aside0.mk ((by rw [hg]; exact Nat.ne_of_lt (bX_ (kz BK102.out)) : gb102 ≠ gb113)); have NB113_102 := Aside0.mk ((by rw [hg]; exact Nat.ne_of_gt (bX_ (kz BK102.out)) : gb113 ≠ gb102)); replace BK102 := Aside0.mk (ag_ (kz BK102.out) hb); have NB106_113 := Aside0.mk ((by rw [hg]; exact Nat.ne_of_lt (aa_.lt (show aa_ w _ g106 t103 t111 t112 from by repeat (first | (with_reducible first | exact HI106.out | apply aa_.alloc | apply aa_.drewN | apply aa_.drew | apply aa_.set_1 | apply aa_.set_2 | refine aa_.far ?_ NB106_101.out _ | refine aa_.far ?_ NB106_102.out _) | exact HI106.out))) : g106 ≠ gb113)); have NB113_106 := Aside0.mk ((by rw [hg]; exact Nat.ne_of_gt (aa_.lt (show aa_ w _ g106 t103 t111 t112 from by repeat (first | (with_reducible first | exact HI106.out | apply aa_.alloc | apply aa_.drewN | apply aa_.drew | apply aa_.set_1 | apply aa_.set_2 | refine aa_.far ?_ NB106_101.out _ | refine aa_.far ?_ NB106_102.out _) | exact HI106.out))) : gb113 ≠ g106)); replace HI106 := Aside0.mk (aa_.below (by repeat (first | (with_reducible first | exact HI106.out | apply aa_.alloc | apply aa_.drewN | apply aa_.drew | apply aa_.set_1 | apply aa_.set_2 | refine aa_.far ?_ NB106_101.out _ | refine aa_.far ?_ NB106_102.out _) | exact HI106.out)) hb); clear hb hbox hg; have hnb10 := NB113_101.out; have hnc10 := NB101_113.out; have hnb11 := NB113_102.out; have hnc11 := NB102_113.out; have hnb12 := NB113_106.out; have hnc12 := NB106_113.out; obtain ⟨hcz13_0, hcz13_1⟩ := cz2_ BK113.out; obtain ⟨hfz13_0, hfz13_1⟩ := fz2_ BK113.out; obtain ⟨Ao14, co14, eo14, _⟩ := Kd.Q_slice HO110.out; subst eo14))
 have n0_ : Aside0 (Kd.Q (Kd.int .i64) 2 ((w9.setCell ⟨gb113, 0, none⟩ (.string t107)).setCell ⟨gb113, 1, none⟩ (.slice Ao14 t108.length co14)) w.heap.size (fun _ => True) (.slice Ao14 t108.length co14) t108) := ⟨by (with_reducible repeat (first | apply Kd.ap_ | apply Kd.aq_ | apply Kd.as_)); exact Kd.bJ_ (Kd.Q_far (p := ⟨gb113, 1, none⟩) (Kd.Q_far (p := ⟨gb113, 0, none⟩) (Kd.bU_ HO110.out BK113.out (by decide)) (fun _ hk => hk.2) (.string t107)) (fun _ hk => hk.2) (.slice Ao14 t108.length co14)) (fun _ hk => trivial)⟩
 have n1_ : Aside0 (((w9.setCell ⟨gb113, 0, none⟩ (.string t107)).setCell ⟨gb113, 1, none⟩ (.slice Ao14 t108.length co14)).heap[gb101]? = some (.cells #[.string (⟨#[]⟩ : ByteArray), .slice none 0 0] 28 (0, 0))) := ⟨by exact kf (kf (kz BK101.out) NB101_113.out) NB101_113.out⟩
 have n2_ : Aside0 (((w9.setCell ⟨gb113, 0, none⟩ (.string t107)).setCell ⟨gb113, 1, none⟩ (.slice Ao14 t108.length co14)).heap[gb102]? = some (.cells #[.string (⟨#[]⟩ : ByteArray), .slice none 0 0] 28 (0, 0))) := ⟨by exact kf (kf (kz BK102.out) NB102_113.out) NB102_113.out⟩
 have n3_ : Aside0 (((w9.setCell ⟨gb113, 0, none⟩ (.string t107)).setCell ⟨gb113, 1, none⟩ (.slice Ao14 t108.length co14)).heap[gb113]? = some (.cells #[.string t107, .slice Ao14 t108.length co14] 28 (0, 0))) := ⟨by exact kj2_1 (kj2_0 (kz BK113.out))⟩
 have n4_ : Aside0 (aa_ w ((w9.setCell ⟨gb113, 0, none⟩ (.string t107)).setCell ⟨gb113, 1, none⟩ (.slice Ao14 t108.length co14)) g106 t103 t111 t112) := ⟨by repeat (first | (with_reducible first | exact HI106.out | apply aa_.alloc | apply aa_.drewN | apply aa_.drew | apply aa_.set_1 | apply aa_.set_2 | refine aa_.far ?_ NB106_101.out _ | refine aa_.far ?_ NB106_102.out _ | refine aa_.far ?_ NB106_113.out _) | exact HI106.out)⟩
 have n5_ : Aside0 (Below w.heap.size w ((w9.setCell ⟨gb113, 0, none⟩ (.string t107)).setCell ⟨gb113, 1, none⟩ (.slice Ao14 t108.length co14))) := ⟨by repeat (first | (with_reducible first | exact HB.out | apply bA_ | apply bN_ | apply bD_ | refine ad_ ?_ (aa_.ge HI106.out) | refine ad_ ?_ GE101.out | refine ad_ ?_ GE102.out | refine ad_ ?_ GE113.out) | exact HB.out)⟩
 (try clear HO110)
 (try clear BK101)
 (try clear BK102)
 (try clear BK113)
 (try clear HI106)
 (try clear HB)
 generalize ((w9.setCell ⟨gb113, 0, none⟩ (.string t107)).setCell ⟨gb113, 1, none⟩ (.slice Ao14 t108.length co14)) = w15 at n0_ n1_ n2_ n3_ n4_ n5_ ⊢
 have HO110 := n0_
 have BK101 := n1_
 have BK102 := n2_
 have BK113 := n3_
 have HI106 := n4_
 have HB := n5_
 clear n0_ n1_ n2_ n3_ n4_ n5_
 have n0_ := Aside0.mk (Kd.as_ HO110.out)
 have n1_ := Aside0.mk (ay_ BK101.out)
 have n2_ := Aside0.mk (ay_ BK102.out)
 have n3_ := Aside0.mk (ay_ BK113.out)
 have n4_ := Aside0.mk (aa_.drew HI106.out)
 have n5_ := Aside0.mk (bD_ HB.out)
 clear HO110
 clear BK101
 clear BK102
 clear BK113
 clear HI106
 clear HB
 have HO110 := n0_
 have BK101 := n1_
 have BK102 := n2_
 have BK113 := n3_
 have HI106 := n4_
 have HB := n5_
 clear n0_ n1_ n2_ n3_ n4_ n5_
 refine cv_ (n := 5) (S := fun w' => w'.cell? ⟨gb113, 0, none⟩ = some (.string t107) ∧ w'.cell? ⟨gb113, 1, none⟩ = some (.slice Ao14 t108.length co14)) (ds := []) #[f_,f_,f_,f_,f_] (by kernel_rfl) rfl rfl ⟨(aM_ BK113.out 0).trans rfl, (aM_ BK113.out 1).trans rfl⟩ (fun hHeld => ?_)
 generalize w15.drew = w16 at HO110 BK101 BK102 BK113 HI106 HB hHeld ⊢
 refine pure_ (i := 1) (N := some 11) (v := ?_) (a' := ?_) #[f_,t_,f_,f_,f_] rfl rfl (by kernel_rfl) (fun _ _ _ h => h) (Or.inl ⟨by rfl, ?_⟩) ?_ ?_
 rotate_left
 ·intro w'
  go_simp
  with_reducible rfl
 rotate_left
 ·simp only [Act.put, lsa_, ls0_, ls1_, i64_w, i32_w]
  rfl
 refine take_ (i := 0) (N := some 10) (v := ?_) (a' := ?_) #[t_,t_,f_,f_,f_] rfl rfl (by kernel_rfl) (fun _ _ _ h => h) (Or.inl ⟨by rfl, ?_⟩) hHeld ?_ ?_
 rotate_left
 ·rintro w' ⟨s0, s1⟩
  go_simp
  with_reducible rfl
 rotate_left
 ·simp only [Act.put, lsa_, ls0_, ls1_, i64_w, i32_w]
  rfl
 refine one_ (i := 2) (N := some 12) #[t_,t_,t_,f_,f_] rfl rfl (by kernel_rfl) (by decide) (fun K hK => ?_)
 (first | refine goes_ Try.func70 (by kernel_rfl) rfl #[.pointer (some ⟨g106, 0, none⟩)] (by rfl) rfl rfl (by first | rfl | (simp only [lma_, lmc_, lmn_]; first | done | rfl)) ?_ | refine RPW.cC_ Try.func70 (by kernel_rfl) rfl #[.pointer (some ⟨g106, 0, none⟩)] (by rfl) rfl rfl rfl (by first | rfl | (simp only [lma_, lmc_, lmn_]; first | done | rfl)) ?_ | refine RPW.cB_ Try.func70 (by kernel_rfl) rfl #[.pointer (some ⟨g106, 0, none⟩)] (by rfl) rfl rfl rfl (by first | rfl | (simp only [lma_, lmc_, lmn_]; first | done | rfl)) ?_)
 with_reducible refine (ba_.calls k g106 t103 t111 t112 t114 t115 t118 t119 w _ ?side1 ?side2 A4.out).mono ?_
 (case side1 => repeat (first | (with_reducible first | exact HI106.out | apply aa_.alloc | apply aa_.drewN | apply aa_.drew | apply aa_.set_1 | apply aa_.set_2 | refine aa_.far ?_ NB106_101.out _ | refine aa_.far ?_ NB106_102.out _ | refine aa_.far ?_ NB106_113.out _) | exact HI106.out))
 (case side2 => repeat (first | (with_reducible first | exact HB.out | apply bA_ | apply bN_ | apply bD_ | refine ad_ ?_ (aa_.ge HI106.out) | refine ad_ ?_ GE101.out | refine ad_ ?_ GE102.out | refine ad_ ?_ GE113.out) | exact HB.out))
 rintro e w17 ⟨v116, rfl, ho0, hi, hb, hk⟩
 refine ⟨_, rfl, ?_⟩
 have n0_ := Aside0.mk (ae_.blk hk (g' := gb101) (o := .cells #[.string (⟨#[]⟩ : ByteArray), .slice none 0 0] 28 (0, 0)) (kz BK101.out) NB101_106.out (by simp))
 have n1_ := Aside0.mk (ae_.blk hk (g' := gb102) (o := .cells #[.string (⟨#[]⟩ : ByteArray), .slice none 0 0] 28 (0, 0)) (kz BK102.out) NB102_106.out (by simp))
 have n2_ := Aside0.mk (Kd.bJ_ (Kd.Q_told (Kd.Q_oldK (aa_.apartQ (show aa_ w _ g106 t103 t111 t112 from by repeat (first | (with_reducible first | exact HI106.out | apply aa_.alloc | apply aa_.drewN | apply aa_.drew | apply aa_.set_1 | apply aa_.set_2 | refine aa_.far ?_ NB106_101.out _ | refine aa_.far ?_ NB106_102.out _ | refine aa_.far ?_ NB106_113.out _) | exact HI106.out)) (by (with_reducible repeat (first | apply Kd.ap_ | apply Kd.aq_ | apply Kd.as_)); exact HO110.out) (by decide)) hk) (Kd.Q_base ho0)) (fun _ h_ => h_.1))
 have n3_ := Aside0.mk (ae_.blk hk (g' := gb113) (o := .cells #[.string t107, .slice Ao14 t108.length co14] 28 (0, 0)) (kz BK113.out) NB113_106.out (by simp))
 have n4_ := Aside0.mk (Kd.Q_lower (Kd.Q_new' ho0 (Kd.Q_lt (by (with_reducible repeat (first | apply Kd.ap_ | apply Kd.aq_ | apply Kd.as_)); exact HO110.out))) (aA_ (by repeat (first | (with_reducible first | exact HB.out | apply bA_ | apply bN_ | apply bD_ | refine ad_ ?_ (aa_.ge HI106.out) | refine ad_ ?_ GE101.out | refine ad_ ?_ GE102.out | refine ad_ ?_ GE113.out) | exact HB.out))))
 have n5_ := Aside0.mk (hb)
 have n6_ := Aside0.mk (hi)
 clear BK101
 clear BK102
 clear HO110
 clear BK113
 clear HB
 clear HI106
 have BK101 := n0_
 have BK102 := n1_
 have HO110 := n2_
 have BK113 := n3_
 have HO117 := n4_
 have HB := n5_
 have HI106 := n6_
 clear n0_ n1_ n2_ n3_ n4_ n5_ n6_
 (try clear hb)
 (try clear ho0)
 obtain ⟨Ao21, co21, eo21, _⟩ := Kd.Q_slice HO117.out
 (first | subst eo21 | (injection eo21 with f1_ f2_ f3_; have f4_ := f1_.symm; have f5_ := f3_.symm; clear f1_ f2_ f3_; subst f4_; subst f5_))
 refine hK.out _ _ ⟨(aM_ BK113.out 0).trans rfl, (aM_ BK113.out 1).trans rfl⟩ (fun hHeld => ?_)
 clear hK K
 refine norm_ (a' := ?_) ?_ ?_
 rotate_left
 ·show Act.put _ (some 12) _ = _
  simp only [Act.put, lsa_, ls0_, ls1_, i64_w, i32_w]
  rfl
 refine one_ (i := 3) (N := none) #[t_,t_,t_,t_,f_] rfl rfl (by kernel_rfl) (by decide) (fun K hK => ?_)
 have hs18 : w17.cell? ⟨gb101, 0, none⟩ = some (.string (⟨#[]⟩ : ByteArray)) := (aM_ BK101.out 0).trans rfl
 have hfs18 := bH_ BK101.out 0
 have hns18_1 := NB102_101.out
 have hns18_2 := NB113_101.out
 have hms18_1 := NB101_102.out
 have hms18_2 := NB101_113.out
 have hs19 : w17.cell? ⟨gb101, 1, none⟩ = some (.slice none 0 0) := (aM_ BK101.out 1).trans rfl
 have hfs19 := bH_ BK101.out 1
 have hns19_1 := NB102_101.out
 have hns19_2 := NB113_101.out
 have hms19_1 := NB101_102.out
 have hms19_2 := NB101_113.out
 refine skip_ (w1 := ?_) (by rfl) rfl ?_ ?_
 rotate_left
 ·go_simp
  rfl
 refine hK.out _ _ ⟨(cf ((cf (hHeld.1) NB113_101.out)) NB113_101.out), (cf ((cf (hHeld.2) NB113_101.out)) NB113_101.out)⟩ (fun hHeld => ?_)
 clear hK K
 refine one_ (i := 4) (N := none) #[t_,t_,t_,t_,t_] rfl rfl (by kernel_rfl) (by decide) (fun K hK => ?_)
 have hs20 : w17.cell? ⟨gb102, 0, none⟩ = some (.string (⟨#[]⟩ : ByteArray)) := (aM_ BK102.out 0).trans rfl
 have hfs20 := bH_ BK102.out 0
 have hns20_0 := NB101_102.out
 have hns20_2 := NB113_102.out
 have hms20_0 := NB102_101.out
 have hms20_2 := NB102_113.out
 have hs22 : w17.cell? ⟨gb102, 1, none⟩ = some (.slice none 0 0) := (aM_ BK102.out 1).trans rfl
 have hfs22 := bH_ BK102.out 1
 have hns22_0 := NB101_102.out
 have hns22_2 := NB113_102.out
 have hms22_0 := NB102_101.out
 have hms22_2 := NB102_113.out
 refine skip_ (w1 := ?_) (by rfl) rfl ?_ ?_
 rotate_left
 ·go_simp
  rfl
 refine hK.out _ _ ⟨(cf ((cf (hHeld.1) NB113_102.out)) NB113_102.out), (cf ((cf (hHeld.2) NB113_102.out)) NB113_102.out)⟩ (fun hHeld => ?_)
 clear hK K
 refine done_ (by kernel_rfl) ?_
 try go_wp2
 refine bodyPost_ret (results_cc rfl _ _ gb101 gb102 28 28 #[.string t107, .slice Ao14 t108.length co14] #[.string t114, .slice Ao21 t115.length co21] (0, 0) (0, 0) _ _ rfl (by exact kf (kf (kj2_1 (kj2_0 (kz BK101.out))) NB101_102.out) NB101_102.out) Try.underlying28 rfl (by kernel_rfl) rfl (by exact kj2_1 (kj2_0 (kf (kf (kz BK102.out) NB102_101.out) NB102_101.out))) Try.underlying28 rfl (by kernel_rfl)) rfl ?_
 exact ⟨_, _, by first | rfl | (simp [*, aH_, aG_] <;> rfl), by (with_reducible repeat (first | apply Kd.ap_ | apply Kd.aq_ | apply Kd.as_)); exact Kd.bJ_ (Kd.Q_far (p := ⟨gb102, 1, none⟩) (Kd.Q_far (p := ⟨gb102, 0, none⟩) (Kd.Q_far (p := ⟨gb101, 1, none⟩) (Kd.Q_far (p := ⟨gb101, 0, none⟩) (Kd.bU_ (Kd.bU_ HO110.out BK101.out (by decide)) BK102.out (by decide)) (fun _ hk => hk.1.2) (.string t107)) (fun _ hk => hk.1.2) (.slice Ao14 t108.length co14)) (fun _ hk => hk.2) (.string t114)) (fun _ hk => hk.2) (.slice Ao21 t115.length co21)) (fun _ hk => hk.1.1.2), by (with_reducible repeat (first | apply Kd.ap_ | apply Kd.aq_ | apply Kd.as_)); exact Kd.bJ_ (Kd.Q_far (p := ⟨gb102, 1, none⟩) (Kd.Q_far (p := ⟨gb102, 0, none⟩) (Kd.Q_far (p := ⟨gb101, 1, none⟩) (Kd.Q_far (p := ⟨gb101, 0, none⟩) (Kd.bU_ (Kd.bU_ HO117.out BK101.out (by decide)) BK102.out (by decide)) (fun _ hk => hk.1.2) (.string t107)) (fun _ hk => hk.1.2) (.slice Ao14 t108.length co14)) (fun _ hk => hk.2) (.string t114)) (fun _ hk => hk.2) (.slice Ao21 t115.length co21)) (fun _ hk => hk.1.1.2), by repeat (first | (with_reducible first | exact HB.out | apply bA_ | apply bN_ | apply bD_ | refine ad_ ?_ (aa_.ge HI106.out) | refine ad_ ?_ GE101.out | refine ad_ ?_ GE102.out | refine ad_ ?_ GE113.out) | exact HB.out)⟩
def cg_.f (s0_0 : List Int) (s0_1 : Int) (s0_2 : Int) (a1 : Int) : Option (Bool × Int × Int) := (aT_.f s0_0 s0_1 s0_2 a1).bind fun bt101 => (some ((bt101.1 == 0), bt101.2.1, bt101.2.2))
set_option maxHeartbeats 8000000 in
set_option maxRecDepth 100000 in
theorem cg_.calls (g : Nat) (s0_0 : List Int) (s0_1 : Int) (s0_2 : Int) (a1 : Int) (r1 : Bool) (r2 : Int) (r3 : Int) (w0 w : World) (hI : aa_ w0 w g s0_0 s0_1 s0_2) (hB : Below w0.heap.size w0 w) (h : cg_.f s0_0 s0_1 s0_2 a1 = some (r1, r2, r3)) :
  Calls Try.prog 94 #[.pointer (some ⟨g, 0, none⟩), .int .i64 a1] w fun e w' => e = .returned (.bool r1) ∧ aa_ w0 w' g s0_0 r2 r3 ∧ Below w0.heap.size w0 w' ∧ ae_ w w' g none := by
 have HI0 := Aside0.mk hI
 have HK := Aside0.mk (ae_.refl w g none)
 have HL := Aside0.mk hB.size
 clear hI
 have HW0 := Aside0.mk hB.size
 have HB := Aside0.mk hB
 clear hB
 have H : ((aT_.f s0_0 s0_1 s0_2 a1).bind fun bt101 => (some ((bt101.1 == 0), bt101.2.1, bt101.2.2))) = some (r1, r2, r3) := h
 clear h
 replace H := Option.bind_eq_some_iff.mp H
 obtain ⟨⟨t101, t102, t103⟩, A30, H⟩ := H
 (try dsimp only at H)
 have A3 := Aside0.mk A30
 clear A30
 simp only [Option.some.injEq, Prod.mk.injEq] at H
 obtain ⟨rfl, rfl, rfl⟩ := H
 go_enter Try.func94, Try.ntmps94
 go_wp2_with (first | ((with_reducible refine av_ (f := 92) rfl ?_); refine bo_ (some 7) rfl rfl Try.func92 (by kernel_rfl) rfl #[.pointer (some ⟨g, 0, none⟩), .int .i64 a1] rfl (by first | rfl | (simp only [lma_, lmc_, lmn_]; first | done | rfl)) ?_; (with_reducible refine (aT_.calls g s0_0 s0_1 s0_2 a1 t101 t102 t103 w0 _ ?side1 ?side2 A3.out).mono ?_); (case side1 => repeat (first | (with_reducible first | exact HI0.out | apply aa_.alloc | apply aa_.drewN | apply aa_.drew | apply aa_.set_1 | apply aa_.set_2) | exact HI0.out)); (case side2 => repeat (first | (with_reducible first | exact HB.out | apply bA_ | apply bN_ | apply bD_ | refine ad_ ?_ (aa_.ge HI0.out)) | exact HB.out)); rintro e w4 ⟨rfl, hi, hb, hk⟩; refine ⟨_, rfl, ?_⟩; replace HK := Aside0.mk (ae_.trans (by repeat (first | (with_reducible first | exact HK.out | apply ae_.set_ | apply ah_ | apply ao_ | apply ai_) | exact HK.out)) hk (.inl rfl)); replace HB := Aside0.mk (hb); replace HI0 := Aside0.mk (hi); (try clear hb)))
 go_ret
 exact ⟨by first | rfl | (simp [*, aH_, aG_] <;> rfl), by repeat (first | (with_reducible first | exact HI0.out | apply aa_.alloc | apply aa_.drewN | apply aa_.drew | apply aa_.set_1 | apply aa_.set_2) | exact HI0.out), by repeat (first | (with_reducible first | exact HB.out | apply bA_ | apply bN_ | apply bD_ | refine ad_ ?_ (aa_.ge HI0.out)) | exact HB.out), by repeat (first | (with_reducible first | exact HK.out | apply ae_.set_ | apply ah_ | apply ao_ | apply ai_) | exact HK.out)⟩
mutual
def au_.l0 : Nat → List ByteArray → List (S28) → Int → List Int → Int → Int → Option ((List (S28)) × Int × Int)
 | 0, _, _, _, _, _, _ => none
 | k + 1, x3, x4, x5, x1000, x1001, x1002 => if x5 < (x3.length : Int) then ((cg_.f x1000 x1001 x1002 2).bind fun bt107 => (if bt107.1 = true then (if 0 ≤ x5 then ((aL_.f k x1000 bt107.2.1 bt107.2.2 (rdOf ByteArray.empty x3 x5)).bind fun bt111 => (if x4.length < 3518437208883 then (au_.l0 k x3 (x4 ++ [(⟨bt111.1, bt111.2.1⟩ : S28)]) (wrap64 (x5 + 1)) x1000 bt111.2.2.1 bt111.2.2.2) else (none))) else (none)) else (au_.l0 k x3 x4 (wrap64 (x5 + 1)) x1000 bt107.2.1 bt107.2.2))) else ((aT_.f x1000 x1001 x1002 24).bind fun bt120 => (if bt120.1 = 0 then ((ba_.f k x1000 bt120.2.1 bt120.2.2).bind fun bt123 => (if x4.length < 3518437208883 then (some ((x4 ++ [(⟨bt123.1, bt123.2.1⟩ : S28)]), bt123.2.2.1, bt123.2.2.2)) else (none))) else (if bt120.1 = 1 then ((bc_.f x1000 bt120.2.1 bt120.2.2 (([16, 17] : List Int))).bind fun bt135 => (au_.l1 k (([] : List (S28))) bt135.1 0 x1000 bt135.2.1 bt135.2.2)) else (some (x4, bt120.2.1, bt120.2.2)))))
def au_.l1 : Nat → List (S28) → Int → Int → List Int → Int → Int → Option ((List (S28)) × Int × Int)
 | 0, _, _, _, _, _, _ => none
 | k + 1, x4, x6, x7, x1000, x1001, x1002 => if x7 < x6 then ((some (([(wrap64 (97 + x7)) % 256] : List Int) : List Int)).bind fun y141 => (if 1 + (strOfNums y141).size ≤ 9223372036854775807 then (if x4.length < 3518437208883 then (au_.l1 k (x4 ++ [(⟨(⟨#[110]⟩ : ByteArray) ++ (strOfNums y141), (([x7, wrap64 (2 * x7), 0, 0, 0, 0] : List Int))⟩ : S28)]) x6 (wrap64 (x7 + 1)) x1000 x1001 x1002) else (none)) else (none))) else (some (x4, x1001, x1002))
end
def au_.f (k : Nat) (s0_0 : List Int) (s0_1 : Int) (s0_2 : Int) : Option ((List (S28)) × Int × Int) := au_.l0 k (([(⟨#[97]⟩ : ByteArray), (⟨#[98]⟩ : ByteArray), (⟨#[99]⟩ : ByteArray), (⟨#[100]⟩ : ByteArray), (⟨#[101]⟩ : ByteArray), (⟨#[102]⟩ : ByteArray), (⟨#[103]⟩ : ByteArray)] : List ByteArray)) (([] : List (S28))) 0 s0_0 s0_1 s0_2
set_option maxHeartbeats 8000000 in
set_option maxRecDepth 100000 in
theorem au_.calls (k : Nat) (g : Nat) (s0_0 : List Int) (s0_1 : Int) (s0_2 : Int) (r1 : List (S28)) (r2 : Int) (r3 : Int) (w0 w : World) (hI : aa_ w0 w g s0_0 s0_1 s0_2) (hB : Below w0.heap.size w0 w) (h : au_.f k s0_0 s0_1 s0_2 = some (r1, r2, r3)) :
  Calls Try.prog 71 #[.pointer (some ⟨g, 0, none⟩)] w fun e w' => ∃ v0_ : Value, e = .returned (v0_) ∧ Kd.N k28 28 w' w.heap.size (fun k_ => (w.heap.size ≤ k_)) v0_ r1 ∧ aa_ w0 w' g s0_0 r2 r3 ∧ Below w0.heap.size w0 w' ∧ ae_ w w' g none := by
 have hu28 := Try.underlying28
 have HI0 := Aside0.mk hI
 have HK := Aside0.mk (ae_.refl w g none)
 have HL := Aside0.mk hB.size
 clear hI
 have HW0 := Aside0.mk hB.size
 have HB := Aside0.mk hB
 clear hB
 have H : (au_.l0 k (([(⟨#[97]⟩ : ByteArray), (⟨#[98]⟩ : ByteArray), (⟨#[99]⟩ : ByteArray), (⟨#[100]⟩ : ByteArray), (⟨#[101]⟩ : ByteArray), (⟨#[102]⟩ : ByteArray), (⟨#[103]⟩ : ByteArray)] : List ByteArray)) (([] : List (S28))) 0 s0_0 s0_1 s0_2) = some (r1, r2, r3) := h
 clear h
 obtain ⟨y101, hy101⟩ : ∃ y_ : List ByteArray, y_ = (([(⟨#[97]⟩ : ByteArray), (⟨#[98]⟩ : ByteArray), (⟨#[99]⟩ : ByteArray), (⟨#[100]⟩ : ByteArray), (⟨#[101]⟩ : ByteArray), (⟨#[102]⟩ : ByteArray), (⟨#[103]⟩ : ByteArray)] : List ByteArray)) := ⟨_, rfl⟩
 replace H : (au_.l0 k y101 (([] : List (S28))) 0 s0_0 s0_1 s0_2) = some (r1, r2, r3) := by first | (rw [hy101]; with_reducible exact H) | (have H2_ := (Option.bind_some _ _).symm.trans H; rw [hy101]; with_reducible exact H2_) | (have H2_ := (Option.bind_some _ _).symm.trans H; with_reducible exact H2_) | with_reducible exact H | (rw [hy101]; exact H) | exact H
 have Ny101 := Aside0.mk hy101
 clear hy101
 obtain ⟨y104, hy104⟩ : ∃ y_ : List (S28), y_ = (([] : List (S28))) := ⟨_, rfl⟩
 replace H : (au_.l0 k y101 y104 0 s0_0 s0_1 s0_2) = some (r1, r2, r3) := by first | (rw [hy104]; with_reducible exact H) | (have H2_ := (Option.bind_some _ _).symm.trans H; rw [hy104]; with_reducible exact H2_) | (have H2_ := (Option.bind_some _ _).symm.trans H; with_reducible exact H2_) | with_reducible exact H | (rw [hy104]; exact H) | exact H
 have Ny104 := Aside0.mk hy104
 clear hy104
 have H' := Aside0.mk H
 clear H
 go_enter Try.func71, Try.ntmps71
 go_wp2_with (first | ((with_reducible refine bg_ (N := 8) rfl ?_); refine Kd.R_lit Kd.string _ 9 ?hg (N := 8) ?hd (xs := ([(⟨#[97]⟩ : ByteArray), (⟨#[98]⟩ : ByteArray), (⟨#[99]⟩ : ByteArray), (⟨#[100]⟩ : ByteArray), (⟨#[101]⟩ : ByteArray), (⟨#[102]⟩ : ByteArray), (⟨#[103]⟩ : ByteArray)] : List ByteArray)) (inner := [.string (⟨#[97]⟩ : ByteArray), .string (⟨#[98]⟩ : ByteArray), .string (⟨#[99]⟩ : ByteArray), .string (⟨#[100]⟩ : ByteArray), .string (⟨#[101]⟩ : ByteArray), .string (⟨#[102]⟩ : ByteArray), .string (⟨#[103]⟩ : ByteArray)]) (ok := fun _ => True) (okp := fun _ => True) ?hr ?hp (fun _ hk => hk) trivial (Below.refl _ _) (Nat.le_refl _) (by simp) ?_; (case hd => rfl); (case hg => rfl); (case hr => (go_simp; try rfl)); (case hp => exact (Reps.one (show Kd.M Kd.string _ _ _ (⟨#[97]⟩ : ByteArray) [.string (⟨#[97]⟩ : ByteArray)] from rfl) (Reps.one (show Kd.M Kd.string _ _ _ (⟨#[98]⟩ : ByteArray) [.string (⟨#[98]⟩ : ByteArray)] from rfl) (Reps.one (show Kd.M Kd.string _ _ _ (⟨#[99]⟩ : ByteArray) [.string (⟨#[99]⟩ : ByteArray)] from rfl) (Reps.one (show Kd.M Kd.string _ _ _ (⟨#[100]⟩ : ByteArray) [.string (⟨#[100]⟩ : ByteArray)] from rfl) (Reps.one (show Kd.M Kd.string _ _ _ (⟨#[101]⟩ : ByteArray) [.string (⟨#[101]⟩ : ByteArray)] from rfl) (Reps.one (show Kd.M Kd.string _ _ _ (⟨#[102]⟩ : ByteArray) [.string (⟨#[102]⟩ : ByteArray)] from rfl) (Reps.one (show Kd.M Kd.string _ _ _ (⟨#[103]⟩ : ByteArray) [.string (⟨#[103]⟩ : ByteArray)] from rfl) (Reps.none _ _))))))))); intro v102 w2 ho3 hb hg_ hnew_; clear hg_ hnew_; (first | rw [← Ny101.out] at ho3 | (simp only [Int.reduceToNat] at ho3; rw [← Ny101.out] at ho3)); have HO103 := Aside0.mk (Kd.bM_ (Kd.R_newM (M := fun k_ => (w.heap.size ≤ k_)) ho3 (be_ (w := w) (g := g) (row := none) (by repeat (first | (with_reducible first | exact HK.out | apply ae_.set_ | apply ah_ | apply ao_ | apply ai_) | exact HK.out))) (fun k_ h_ => h_)) (be_ (w := w) (g := g) (row := none) (by repeat (first | (with_reducible first | exact HK.out | apply ae_.set_ | apply ah_ | apply ao_ | apply ai_) | exact HK.out)))); replace HK := Aside0.mk (ae_.trans (by repeat (first | (with_reducible first | exact HK.out | apply ae_.set_ | apply ah_ | apply ao_ | apply ai_) | exact HK.out)) (ae_.of_below hb g none) (.inl rfl)); replace HB := Aside0.mk (am_ (by repeat (first | (with_reducible first | exact HB.out | apply bA_ | apply bN_ | apply bD_ | refine ad_ ?_ (aa_.ge HI0.out)) | exact HB.out)) hb); replace HI0 := Aside0.mk (aa_.below (by repeat (first | (with_reducible first | exact HI0.out | apply aa_.alloc | apply aa_.drewN | apply aa_.drew | apply aa_.set_1 | apply aa_.set_2) | exact HI0.out)) hb); clear hb ho3) | ((with_reducible refine bg_ (N := 9) rfl ?_); refine Kd.N_lit k28 _ 28 ?hg (N' := 9) ?hd (xs := ([] : List (S28))) (inner := []) (ok := (fun k_ => (w.heap.size ≤ k_) ∧ some k_ ≠ (v102 : Value).ownBlock ∧ k_ ≠ g)) (okp := (fun k_ => (w.heap.size ≤ k_) ∧ some k_ ≠ (v102 : Value).ownBlock ∧ k_ ≠ g)) ?hr ?hp (fun _ hk => hk) ((show ∀ k_, w2.heap.size ≤ k_ → (fun k_ => (w.heap.size ≤ k_) ∧ some k_ ≠ (v102 : Value).ownBlock ∧ k_ ≠ g) k_ from fun k_ hk => ⟨(Nat.le_trans (be_ (w := w) (g := g) (row := none) (by repeat (first | (with_reducible first | exact HK.out | apply ae_.set_ | apply ah_ | apply ao_ | apply ai_) | exact HK.out))) hk), Kd.fresh' (Kd.R_lt (rz HO103.out)) k_ hk, aa_.fresh (by repeat (first | (with_reducible first | exact HI0.out | apply aa_.alloc | apply aa_.drewN | apply aa_.drew | apply aa_.set_1 | apply aa_.set_2) | exact HI0.out)) k_ hk⟩) _ (Nat.le_refl _)) (Below.refl _ _) (Nat.le_refl _) (by simp) ?_; (case hd => rfl); (case hg => rfl); (case hr => (go_simp; try rfl)); (case hp => exact (Reps.none _ _)); intro v105 w4 ho5 hb hg_ hnew_; clear hg_ hnew_; (first | rw [← Ny104.out] at ho5 | (simp only [Int.reduceToNat] at ho5; rw [← Ny104.out] at ho5)); replace HO103 := Aside0.mk (Kd.cc_ (rz HO103.out) hb); have HO106 := Aside0.mk (Kd.N_lower ho5 (be_ (w := w) (g := g) (row := none) (by repeat (first | (with_reducible first | exact HK.out | apply ae_.set_ | apply ah_ | apply ao_ | apply ai_) | exact HK.out)))); replace HK := Aside0.mk (ae_.trans (by repeat (first | (with_reducible first | exact HK.out | apply ae_.set_ | apply ah_ | apply ao_ | apply ai_) | exact HK.out)) (ae_.of_below hb g none) (.inl rfl)); replace HB := Aside0.mk (am_ (by repeat (first | (with_reducible first | exact HB.out | apply bA_ | apply bN_ | apply bD_ | refine ad_ ?_ (aa_.ge HI0.out)) | exact HB.out)) hb); replace HI0 := Aside0.mk (aa_.below (by repeat (first | (with_reducible first | exact HI0.out | apply aa_.alloc | apply aa_.drewN | apply aa_.drew | apply aa_.set_1 | apply aa_.set_2) | exact HI0.out)) hb); clear hb ho5))
 (try simp only [Act.put, lsa_, ls0_, ls1_])
 go_loopg [4, 5] k (fun kq v4 v5 w' => ∃ (x4_1 : List (S28)) (x5_1 : Int) (x1001_1 : Int) (x1002_1 : Int), v5 = .int .i64 x5_1 ∧ Aside0 (au_.l0 kq y101 x4_1 x5_1 s0_0 x1001_1 x1002_1 = some (r1, r2, r3)) ∧ Aside0 (kq ≤ k) ∧ Aside0 (Kd.R Kd.string 9 w' w.heap.size (fun k_ => (w.heap.size ≤ k_)) v102 y101) ∧ Aside0 (Kd.N k28 28 w' w.heap.size (fun k_ => (w.heap.size ≤ k_) ∧ some k_ ≠ (v102 : Value).ownBlock ∧ k_ ≠ g) v4 x4_1) ∧ Aside0 (aa_ w0 w' g s0_0 x1001_1 x1002_1) ∧ Aside0 (ae_ w w' g none) ∧ Aside0 (Below w0.heap.size w0 w'))
 case atStart => exact ⟨(y104), (0), (s0_1), (s0_2), (by first | rfl | (simp; done) | (simp [*]; done)), H', ⟨Nat.le_refl _⟩, ⟨rz (Kd.bp_ HO103.out (fun _ hk => hk.1))⟩, ⟨nz HO106.out⟩, ⟨by repeat (first | (with_reducible first | exact HI0.out | apply aa_.alloc | apply aa_.drewN | apply aa_.drew | apply aa_.set_1 | apply aa_.set_2) | exact HI0.out)⟩, ⟨by repeat (first | (with_reducible first | exact HK.out | apply ae_.set_ | apply ah_ | apply ao_ | apply ai_) | exact HK.out)⟩, ⟨by repeat (first | (with_reducible first | exact HB.out | apply bA_ | apply bN_ | apply bD_ | refine ad_ ?_ (aa_.ge HI0.out)) | exact HB.out)⟩⟩
 case round =>
  clear H'
  obtain ⟨x4_1, x5_1, x1001_1, x1002_1, rfl, HA, HK1, HO_3, HO_4, HI0, HK, HB⟩ := hrel
  cases gk with
  | zero => exact absurd HA.out (by simp [au_.l0])
  | succ k1 =>
   have H := HA.out
   clear HA
   simp only [au_.l0] at H
   by_cases c6 : x5_1 < (y101.length : Int)
   rotate_left
   ·rw [if_neg c6] at H
    have c6b0 : decide (x5_1 < (y101.length : Int)) = false := decide_eq_false c6
    clear c6
    replace H := Option.bind_eq_some_iff.mp H
    obtain ⟨⟨t120, t121, t122⟩, A180, H⟩ := H
    (try dsimp only at H)
    have A18 := Aside0.mk A180
    clear A180
    have HC19 := Aside0.mk H
    clear H
    obtain ⟨Ao20, co20, eo20⟩ := Kd.bP_ HO_3.out
    subst eo20
    go_upto_if 29 with (first | ((with_reducible refine av_ (f := 92) rfl ?_); refine bo_ (some 28) rfl rfl Try.func92 (by kernel_rfl) rfl #[.pointer (some ⟨g, 0, none⟩), .int .i64 24] rfl (by first | rfl | (simp only [lma_, lmc_, lmn_]; first | done | rfl)) ?_; (with_reducible refine (aT_.calls g s0_0 x1001_1 x1002_1 24 t120 t121 t122 w0 _ ?side1 ?side2 A18.out).mono ?_); (case side1 => repeat (first | (with_reducible first | exact HI0.out | apply aa_.alloc | apply aa_.drewN | apply aa_.drew | apply aa_.set_1 | apply aa_.set_2) | exact HI0.out)); (case side2 => repeat (first | (with_reducible first | exact HB.out | apply bA_ | apply bN_ | apply bD_ | refine ad_ ?_ (aa_.ge HI0.out)) | exact HB.out)); rintro e w21 ⟨rfl, hi, hb, hk⟩; refine ⟨_, rfl, ?_⟩; replace HO_3 := Aside0.mk (Kd.bp_ (Kd.cw_ (aa_.apart (show aa_ w0 _ g s0_0 x1001_1 x1002_1 from by repeat (first | (with_reducible first | exact HI0.out | apply aa_.alloc | apply aa_.drewN | apply aa_.drew | apply aa_.set_1 | apply aa_.set_2) | exact HI0.out)) (rz HO_3.out) (by decide)) hk (fun _ h => h.2)) (fun _ h => h.1)); replace HO_4 := Aside0.mk (Kd.bV_ (Kd.N_keep (Kd.bV_ (ok := fun k_ => (((w.heap.size ≤ k_)) ∧ (some k_ ≠ (.slice Ao20 y101.length co20 : Value).ownBlock ∧ k_ ≠ g))) (nz HO_4.out) (fun k_ hk_ => (⟨hk_, hk_.2.2⟩ : _ ∧ k_ ≠ g))) hk (fun _ h => h.2)) (fun _ h => h.1)); replace HK := Aside0.mk (ae_.trans (by repeat (first | (with_reducible first | exact HK.out | apply ae_.set_ | apply ah_ | apply ao_ | apply ai_) | exact HK.out)) hk (.inl rfl)); replace HB := Aside0.mk (hb); replace HI0 := Aside0.mk (hi); (try clear hb)))
    (try simp only [Act.put, lsa_, ls0_, ls1_])
    have H := HC19.out
    clear HC19
    by_cases c22 : t120 = 0
    rotate_left
    ·rw [if_neg c22] at H
     have c22b0 : (t120 == 0) = false := beq_eq_false_iff_ne.mpr c22
     have c22b1 : (t120 != 0) = true := bne_iff_ne.mpr c22
     (first | rw [c22b0] | (simp only [i64_w, i32_w]; rw [c22b0]) | (simp only [c22b1, Bool.not_true, Bool.not_false]) | (simp only [c22b0, Bool.not_true, Bool.not_false]) | skip)
     by_cases c28 : t120 = 1
     rotate_left
     ·rw [if_neg c28] at H
      have c28b0 : (t120 == 1) = false := beq_eq_false_iff_ne.mpr c28
      have c28b1 : (t120 != 1) = true := bne_iff_ne.mpr c28
      simp only [Option.some.injEq, Prod.mk.injEq] at H
      obtain ⟨rfl, rfl, rfl⟩ := H
      go_wp2
      go_ret
      exact ⟨_, by first | rfl | (simp [*, aH_, aG_] <;> rfl), nz (Kd.bV_ HO_4.out (fun _ hk => hk.1)), by repeat (first | (with_reducible first | exact HI0.out | apply aa_.alloc | apply aa_.drewN | apply aa_.drew | apply aa_.set_1 | apply aa_.set_2) | exact HI0.out), by repeat (first | (with_reducible first | exact HB.out | apply bA_ | apply bN_ | apply bD_ | refine ad_ ?_ (aa_.ge HI0.out)) | exact HB.out), by repeat (first | (with_reducible first | exact HK.out | apply ae_.set_ | apply ah_ | apply ao_ | apply ai_) | exact HK.out)⟩
     rw [if_pos c28] at H
     have c28b0 : (t120 == 1) = true := beq_iff_eq.mpr c28
     have c28b1 : (t120 != 1) = false := bne_eq_false_iff_eq.mpr c28
     clear c28
     obtain ⟨y132, hy132⟩ : ∃ y_ : List Int, y_ = (([16, 17] : List Int)) := ⟨_, rfl⟩
     replace H : ((bc_.f s0_0 t121 t122 y132).bind fun bt135 => (au_.l1 k1 (([] : List (S28))) bt135.1 0 s0_0 bt135.2.1 bt135.2.2)) = some (r1, r2, r3) := by first | (rw [hy132]; with_reducible exact H) | (have H2_ := (Option.bind_some _ _).symm.trans H; rw [hy132]; with_reducible exact H2_) | (have H2_ := (Option.bind_some _ _).symm.trans H; with_reducible exact H2_) | with_reducible exact H | (rw [hy132]; exact H) | exact H
     have Ny132 := Aside0.mk hy132
     clear hy132
     replace H := Option.bind_eq_some_iff.mp H
     obtain ⟨⟨t135, t136, t137⟩, A290, H⟩ := H
     (try dsimp only at H)
     have A29 := Aside0.mk A290
     clear A290
     obtain ⟨y138, hy138⟩ : ∃ y_ : List (S28), y_ = (([] : List (S28))) := ⟨_, rfl⟩
     replace H : (au_.l1 k1 y138 t135 0 s0_0 t136 t137) = some (r1, r2, r3) := by first | (rw [hy138]; with_reducible exact H) | (have H2_ := (Option.bind_some _ _).symm.trans H; rw [hy138]; with_reducible exact H2_) | (have H2_ := (Option.bind_some _ _).symm.trans H; with_reducible exact H2_) | with_reducible exact H | (rw [hy138]; exact H) | exact H
     have Ny138 := Aside0.mk hy138
     clear hy138
     have H' := Aside0.mk H
     clear H
     go_wp2_with (first | ((with_reducible refine bg_ (N := 39) rfl ?_); refine Kd.R_lit (Kd.int .i64) _ 2 ?hg (N := 39) ?hd (xs := ([16, 17] : List Int)) (inner := [.int .i64 16, .int .i64 17]) (ok := fun _ => True) (okp := fun _ => True) ?hr ?hp (fun _ hk => hk) trivial (Below.refl _ _) (Nat.le_refl _) (by simp) ?_; (case hd => rfl); (case hg => rfl); (case hr => (go_simp; try rfl)); (case hp => exact (Reps.one (show Kd.M (Kd.int .i64) _ _ _ 16 [.int .i64 16] from rfl) (Reps.one (show Kd.M (Kd.int .i64) _ _ _ 17 [.int .i64 17] from rfl) (Reps.none _ _)))); intro v133 w30 ho31 hb hg_ hnew_; clear hg_ hnew_; (first | rw [← Ny132.out] at ho31 | (simp only [Int.reduceToNat] at ho31; rw [← Ny132.out] at ho31)); replace HO_3 := Aside0.mk (Kd.cc_ (rz HO_3.out) hb); replace HO_4 := Aside0.mk (Kd.N_elder' (nz HO_4.out) (Kd.cr_ ho31) hb); have HO134 := Aside0.mk (Kd.bM_ (Kd.R_newM (M := fun k_ => (w.heap.size ≤ k_)) ho31 (be_ (w := w) (g := g) (row := none) (by repeat (first | (with_reducible first | exact HK.out | apply ae_.set_ | apply ah_ | apply ao_ | apply ai_) | exact HK.out))) (fun k_ h_ => h_)) (be_ (w := w) (g := g) (row := none) (by repeat (first | (with_reducible first | exact HK.out | apply ae_.set_ | apply ah_ | apply ao_ | apply ai_) | exact HK.out)))); replace HK := Aside0.mk (ae_.trans (by repeat (first | (with_reducible first | exact HK.out | apply ae_.set_ | apply ah_ | apply ao_ | apply ai_) | exact HK.out)) (ae_.of_below hb g none) (.inl rfl)); replace HB := Aside0.mk (am_ (by repeat (first | (with_reducible first | exact HB.out | apply bA_ | apply bN_ | apply bD_ | refine ad_ ?_ (aa_.ge HI0.out)) | exact HB.out)) hb); replace HI0 := Aside0.mk (aa_.below (by repeat (first | (with_reducible first | exact HI0.out | apply aa_.alloc | apply aa_.drewN | apply aa_.drew | apply aa_.set_1 | apply aa_.set_2) | exact HI0.out)) hb); clear hb ho31; obtain ⟨Ao32, co32, eo32⟩ := Kd.bP_ HO134.out; subst eo32) | ((with_reducible refine av_ (f := 93) rfl ?_); refine bo_ (some 40) rfl rfl Try.func93 (by kernel_rfl) rfl #[.pointer (some ⟨g, 0, none⟩), .slice Ao32 y132.length co32] rfl (by first | rfl | (simp only [lma_, lmc_, lmn_]; first | done | rfl)) ?_; (with_reducible refine (bc_.calls g s0_0 t121 t122 _ _ y132 t135 t136 t137 w0 _ ?side1 ?side2 ?side3 ?side4 ?side5 A29.out).mono ?_); (case side1 => repeat (first | (with_reducible first | exact HI0.out | apply aa_.alloc | apply aa_.drewN | apply aa_.drew | apply aa_.set_1 | apply aa_.set_2) | exact HI0.out)); (case side2 => repeat (first | (with_reducible first | exact HB.out | apply bA_ | apply bN_ | apply bD_ | refine ad_ ?_ (aa_.ge HI0.out)) | exact HB.out)); (case side3 => exact cz (Kd.aD_ HO134.out).2.2); (case side4 => exact (Kd.aD_ HO134.out).2.1); (case side5 => exact far_slice (aa_.own_ne HI0.out HO134.out (by decide))); rintro e w33 ⟨rfl, hi, hb, hk⟩; refine ⟨_, rfl, ?_⟩; replace HO_3 := Aside0.mk (Kd.bp_ (Kd.cw_ (aa_.apart (show aa_ w0 _ g s0_0 t121 t122 from by repeat (first | (with_reducible first | exact HI0.out | apply aa_.alloc | apply aa_.drewN | apply aa_.drew | apply aa_.set_1 | apply aa_.set_2) | exact HI0.out)) (rz HO_3.out) (by decide)) hk (fun _ h => h.2)) (fun _ h => h.1)); replace HO_4 := Aside0.mk (Kd.bV_ (Kd.N_keep (Kd.bV_ (ok := fun k_ => ((((w.heap.size ≤ k_)) ∧ (some k_ ≠ (.slice Ao20 y101.length co20 : Value).ownBlock ∧ k_ ≠ g)) ∧ some k_ ≠ (.slice Ao32 y132.length co32 : Value).ownBlock)) (nz HO_4.out) (fun k_ hk_ => (⟨hk_, hk_.1.2.2⟩ : _ ∧ k_ ≠ g))) hk (fun _ h => h.2)) (fun _ h => h.1)); replace HO134 := Aside0.mk (Kd.bp_ (Kd.cw_ (aa_.apart (show aa_ w0 _ g s0_0 t121 t122 from by repeat (first | (with_reducible first | exact HI0.out | apply aa_.alloc | apply aa_.drewN | apply aa_.drew | apply aa_.set_1 | apply aa_.set_2) | exact HI0.out)) (rz HO134.out) (by decide)) hk (fun _ h => h.2)) (fun _ h => h.1)); replace HK := Aside0.mk (ae_.trans (by repeat (first | (with_reducible first | exact HK.out | apply ae_.set_ | apply ah_ | apply ao_ | apply ai_) | exact HK.out)) hk (.inl rfl)); replace HB := Aside0.mk (hb); replace HI0 := Aside0.mk (hi); (try clear hb)) | ((with_reducible refine bg_ (N := 41) rfl ?_); refine Kd.N_lit k28 _ 28 ?hg (N' := 41) ?hd (xs := ([] : List (S28))) (inner := []) (ok := (fun k_ => (w.heap.size ≤ k_) ∧ some k_ ≠ (.slice Ao20 y101.length co20 : Value).ownBlock ∧ some k_ ≠ (u4 : Value).ownBlock ∧ some k_ ≠ (.slice Ao32 y132.length co32 : Value).ownBlock ∧ k_ ≠ g)) (okp := (fun k_ => (w.heap.size ≤ k_) ∧ some k_ ≠ (.slice Ao20 y101.length co20 : Value).ownBlock ∧ some k_ ≠ (u4 : Value).ownBlock ∧ some k_ ≠ (.slice Ao32 y132.length co32 : Value).ownBlock ∧ k_ ≠ g)) ?hr ?hp (fun _ hk => hk) ((show ∀ k_, w33.heap.size ≤ k_ → (fun k_ => (w.heap.size ≤ k_) ∧ some k_ ≠ (.slice Ao20 y101.length co20 : Value).ownBlock ∧ some k_ ≠ (u4 : Value).ownBlock ∧ some k_ ≠ (.slice Ao32 y132.length co32 : Value).ownBlock ∧ k_ ≠ g) k_ from fun k_ hk => ⟨(Nat.le_trans (be_ (w := w) (g := g) (row := none) (by repeat (first | (with_reducible first | exact HK.out | apply ae_.set_ | apply ah_ | apply ao_ | apply ai_) | exact HK.out))) hk), Kd.fresh' (Kd.R_lt (rz HO_3.out)) k_ hk, Kd.fresh' (Kd.N_lt (nz HO_4.out)) k_ hk, Kd.fresh' (Kd.R_lt (rz HO134.out)) k_ hk, aa_.fresh (by repeat (first | (with_reducible first | exact HI0.out | apply aa_.alloc | apply aa_.drewN | apply aa_.drew | apply aa_.set_1 | apply aa_.set_2) | exact HI0.out)) k_ hk⟩) _ (Nat.le_refl _)) (Below.refl _ _) (Nat.le_refl _) (by simp) ?_; (case hd => rfl); (case hg => rfl); (case hr => (go_simp; try rfl)); (case hp => exact (Reps.none _ _)); intro v139 w34 ho35 hb hg_ hnew_; clear hg_ hnew_; (first | rw [← Ny138.out] at ho35 | (simp only [Int.reduceToNat] at ho35; rw [← Ny138.out] at ho35)); replace HO_3 := Aside0.mk (Kd.cc_ (rz HO_3.out) hb); replace HO_4 := Aside0.mk (Kd.N_elder' (nz HO_4.out) (Kd.N_base ho35) hb); replace HO134 := Aside0.mk (Kd.cc_ (rz HO134.out) hb); have HO140 := Aside0.mk (Kd.N_lower ho35 (be_ (w := w) (g := g) (row := none) (by repeat (first | (with_reducible first | exact HK.out | apply ae_.set_ | apply ah_ | apply ao_ | apply ai_) | exact HK.out)))); replace HK := Aside0.mk (ae_.trans (by repeat (first | (with_reducible first | exact HK.out | apply ae_.set_ | apply ah_ | apply ao_ | apply ai_) | exact HK.out)) (ae_.of_below hb g none) (.inl rfl)); replace HB := Aside0.mk (am_ (by repeat (first | (with_reducible first | exact HB.out | apply bA_ | apply bN_ | apply bD_ | refine ad_ ?_ (aa_.ge HI0.out)) | exact HB.out)) hb); replace HI0 := Aside0.mk (aa_.below (by repeat (first | (with_reducible first | exact HI0.out | apply aa_.alloc | apply aa_.drewN | apply aa_.drew | apply aa_.set_1 | apply aa_.set_2) | exact HI0.out)) hb); clear hb ho35))
     (try simp only [Act.put, lsa_, ls0_, ls1_])
     go_loopg [4, 7] k1 (fun kq v4 v7 w' => ∃ (x4_2 : List (S28)) (x7_2 : Int), v7 = .int .i64 x7_2 ∧ Aside0 (au_.l1 kq x4_2 t135 x7_2 s0_0 t136 t137 = some (r1, r2, r3)) ∧ Aside0 (kq ≤ k1) ∧ Aside0 (Kd.N k28 28 w' w.heap.size (fun k_ => (w.heap.size ≤ k_) ∧ k_ ≠ g) v4 x4_2) ∧ Aside0 (aa_ w0 w' g s0_0 t136 t137) ∧ Aside0 (ae_ w w' g none) ∧ Aside0 (Below w0.heap.size w0 w'))
     case atStart => exact ⟨(y138), (0), (by first | rfl | (simp; done) | (simp [*]; done)), H', ⟨Nat.le_refl _⟩, ⟨nz (Kd.bV_ HO140.out (fun _ hk => ⟨hk.1, hk.2.2.2.2⟩))⟩, ⟨by repeat (first | (with_reducible first | exact HI0.out | apply aa_.alloc | apply aa_.drewN | apply aa_.drew | apply aa_.set_1 | apply aa_.set_2) | exact HI0.out)⟩, ⟨by repeat (first | (with_reducible first | exact HK.out | apply ae_.set_ | apply ah_ | apply ao_ | apply ai_) | exact HK.out)⟩, ⟨by repeat (first | (with_reducible first | exact HB.out | apply bA_ | apply bN_ | apply bD_ | refine ad_ ?_ (aa_.ge HI0.out)) | exact HB.out)⟩⟩
     case round =>
      clear H'
      obtain ⟨x4_2, x7_2, rfl, HA, HK2, HO_4, HI0, HK, HB⟩ := hrel
      cases gk with
      | zero => exact absurd HA.out (by simp [au_.l1])
      | succ k2 =>
       have H := HA.out
       clear HA
       simp only [au_.l1] at H
       by_cases c36 : x7_2 < t135
       rotate_left
       ·rw [if_neg c36] at H
        have c36b0 : decide (x7_2 < t135) = false := decide_eq_false c36
        clear c36
        simp only [Option.some.injEq, Prod.mk.injEq] at H
        obtain ⟨rfl, rfl, rfl⟩ := H
        go_wp2
        go_ret
        exact ⟨_, by first | rfl | (simp [*, aH_, aG_] <;> rfl), nz (Kd.bV_ HO_4.out (fun _ hk => hk.1)), by repeat (first | (with_reducible first | exact HI0.out | apply aa_.alloc | apply aa_.drewN | apply aa_.drew | apply aa_.set_1 | apply aa_.set_2) | exact HI0.out), by repeat (first | (with_reducible first | exact HB.out | apply bA_ | apply bN_ | apply bD_ | refine ad_ ?_ (aa_.ge HI0.out)) | exact HB.out), by repeat (first | (with_reducible first | exact HK.out | apply ae_.set_ | apply ah_ | apply ao_ | apply ai_) | exact HK.out)⟩
       rw [if_pos c36] at H
       have c36b0 : decide (x7_2 < t135) = true := decide_eq_true c36
       clear c36
       obtain ⟨y141, hy141⟩ : ∃ y_ : List Int, y_ = (([(wrap64 (97 + x7_2)) % 256] : List Int)) := ⟨_, rfl⟩
       replace H : (if 1 + (strOfNums y141).size ≤ 9223372036854775807 then (if x4_2.length < 3518437208883 then (au_.l1 k2 (x4_2 ++ [(⟨(⟨#[110]⟩ : ByteArray) ++ (strOfNums y141), (([x7_2, wrap64 (2 * x7_2), 0, 0, 0, 0] : List Int))⟩ : S28)]) t135 (wrap64 (x7_2 + 1)) s0_0 t136 t137) else (none)) else (none)) = some (r1, r2, r3) := by first | (rw [hy141]; with_reducible exact H) | (have H2_ := (Option.bind_some _ _).symm.trans H; rw [hy141]; with_reducible exact H2_) | (have H2_ := (Option.bind_some _ _).symm.trans H; with_reducible exact H2_) | with_reducible exact H | (rw [hy141]; exact H) | exact H
       have Ny141 := Aside0.mk hy141
       clear hy141
       by_cases c37 : 1 + (strOfNums y141).size ≤ 9223372036854775807
       rotate_left
       ·rw [if_neg c37] at H
        exact absurd H (by simp)
       rw [if_pos c37] at H
       have c37b0 := eq_true c37
       have c37b1 : decide (1 + (strOfNums y141).size ≤ 9223372036854775807) = true := decide_eq_true c37
       try have c37b2 : (9223372036854775807 < 1 + (strOfNums y141).size) = False := eq_false (Nat.not_lt.2 c37)
       obtain ⟨y144, hy144⟩ : ∃ y_ : List Int, y_ = (([x7_2, wrap64 (2 * x7_2), 0, 0, 0, 0] : List Int)) := ⟨_, rfl⟩
       replace H : (if x4_2.length < 3518437208883 then (au_.l1 k2 (x4_2 ++ [(⟨(⟨#[110]⟩ : ByteArray) ++ (strOfNums y141), y144⟩ : S28)]) t135 (wrap64 (x7_2 + 1)) s0_0 t136 t137) else (none)) = some (r1, r2, r3) := by first | (rw [hy144]; with_reducible exact H) | (have H2_ := (Option.bind_some _ _).symm.trans H; rw [hy144]; with_reducible exact H2_) | (have H2_ := (Option.bind_some _ _).symm.trans H; with_reducible exact H2_) | with_reducible exact H | (rw [hy144]; exact H) | exact H
       have Ny144 := Aside0.mk hy144
       clear hy144
       by_cases c38 : x4_2.length < 3518437208883
       rotate_left
       ·rw [if_neg c38] at H
        exact absurd H (by simp)
       rw [if_pos c38] at H
       have LMc38 := Aside0.mk c38
       clear c38
       obtain ⟨y147, hy147⟩ : ∃ y_ : List (S28), y_ = (x4_2 ++ [(⟨(⟨#[110]⟩ : ByteArray) ++ (strOfNums y141), y144⟩ : S28)]) := ⟨_, rfl⟩
       replace H : (au_.l1 k2 y147 t135 (wrap64 (x7_2 + 1)) s0_0 t136 t137) = some (r1, r2, r3) := by first | (rw [hy147]; with_reducible exact H) | (have H2_ := (Option.bind_some _ _).symm.trans H; rw [hy147]; with_reducible exact H2_) | (have H2_ := (Option.bind_some _ _).symm.trans H; with_reducible exact H2_) | with_reducible exact H | (rw [hy147]; exact H) | exact H
       have Ny147 := Aside0.mk hy147
       clear hy147
       have H' := Aside0.mk H
       clear H
       go_wp2_with (first | ((with_reducible refine bg_ (N := 51) rfl ?_); refine Kd.R_lit (Kd.int .u8) _ 5 ?hg (N := 51) ?hd (xs := ([(wrap64 (97 + x7_2)) % 256] : List Int)) (inner := [.int .u8 ((wrap64 (97 + x7_2)) % 256)]) (ok := fun _ => True) (okp := fun _ => True) ?hr ?hp (fun _ hk => hk) trivial (Below.refl _ _) (Nat.le_refl _) (by simp) ?_; (case hd => rfl); (case hg => rfl); (case hr => (go_simp; try rfl)); (case hp => exact (Reps.one (show Kd.M (Kd.int .u8) _ _ _ ((wrap64 (97 + x7_2)) % 256) [.int .u8 ((wrap64 (97 + x7_2)) % 256)] from rfl) (Reps.none _ _))); intro v142 w39 ho40 hb hg_ hnew_; clear hg_ hnew_; (first | rw [← Ny141.out] at ho40 | (simp only [Int.reduceToNat] at ho40; rw [← Ny141.out] at ho40)); replace HO_4 := Aside0.mk (Kd.N_elder' (nz HO_4.out) (Kd.cr_ ho40) hb); have HO143 := Aside0.mk (Kd.bM_ (Kd.R_newM (M := fun k_ => (w.heap.size ≤ k_)) ho40 (be_ (w := w) (g := g) (row := none) (by repeat (first | (with_reducible first | exact HK.out | apply ae_.set_ | apply ah_ | apply ao_ | apply ai_) | exact HK.out))) (fun k_ h_ => h_)) (be_ (w := w) (g := g) (row := none) (by repeat (first | (with_reducible first | exact HK.out | apply ae_.set_ | apply ah_ | apply ao_ | apply ai_) | exact HK.out)))); replace HK := Aside0.mk (ae_.trans (by repeat (first | (with_reducible first | exact HK.out | apply ae_.set_ | apply ah_ | apply ao_ | apply ai_) | exact HK.out)) (ae_.of_below hb g none) (.inl rfl)); replace HB := Aside0.mk (am_ (by repeat (first | (with_reducible first | exact HB.out | apply bA_ | apply bN_ | apply bD_ | refine ad_ ?_ (aa_.ge HI0.out)) | exact HB.out)) hb); replace HI0 := Aside0.mk (aa_.below (by repeat (first | (with_reducible first | exact HI0.out | apply aa_.alloc | apply aa_.drewN | apply aa_.drew | apply aa_.set_1 | apply aa_.set_2) | exact HI0.out)) hb); clear hb ho40; have hcv41 := own_string (P := Try.prog) Try.underlying55 Try.underlying5 Try.underlying9 (Kd.own_of_R HO143.out)) | ((with_reducible refine bg_ (N := 57) rfl ?_); refine Kd.R_lit (Kd.int .i64) _ 2 ?hg (N := 57) ?hd (xs := ([x7_2, wrap64 (2 * x7_2), 0, 0, 0, 0] : List Int)) (inner := [.int .i64 x7_2, .int .i64 (wrap64 (2 * x7_2)), .int .i64 0, .int .i64 0, .int .i64 0, .int .i64 0]) (ok := fun _ => True) (okp := fun _ => True) ?hr ?hp (fun _ hk => hk) trivial (Below.refl _ _) (Nat.le_refl _) (by simp) ?_; (case hd => rfl); (case hg => rfl); (case hr => (go_simp; try rfl)); (case hp => exact (Reps.one (show Kd.M (Kd.int .i64) _ _ _ x7_2 [.int .i64 x7_2] from rfl) (Reps.one (show Kd.M (Kd.int .i64) _ _ _ (wrap64 (2 * x7_2)) [.int .i64 (wrap64 (2 * x7_2))] from rfl) (Reps.one (show Kd.M (Kd.int .i64) _ _ _ 0 [.int .i64 0] from rfl) (Reps.one (show Kd.M (Kd.int .i64) _ _ _ 0 [.int .i64 0] from rfl) (Reps.one (show Kd.M (Kd.int .i64) _ _ _ 0 [.int .i64 0] from rfl) (Reps.one (show Kd.M (Kd.int .i64) _ _ _ 0 [.int .i64 0] from rfl) (Reps.none _ _)))))))); intro v145 w42 ho43 hb hg_ hnew_; clear hg_ hnew_; (first | rw [← Ny144.out] at ho43 | (simp only [Int.reduceToNat] at ho43; rw [← Ny144.out] at ho43)); replace HO_4 := Aside0.mk (Kd.N_elder' (nz HO_4.out) (Kd.cr_ ho43) hb); replace HO143 := Aside0.mk (Kd.cc_ (rz HO143.out) hb); have HO146 := Aside0.mk (Kd.bM_ (Kd.R_newM (M := fun k_ => (w.heap.size ≤ k_)) ho43 (be_ (w := w) (g := g) (row := none) (by repeat (first | (with_reducible first | exact HK.out | apply ae_.set_ | apply ah_ | apply ao_ | apply ai_) | exact HK.out))) (fun k_ h_ => h_)) (be_ (w := w) (g := g) (row := none) (by repeat (first | (with_reducible first | exact HK.out | apply ae_.set_ | apply ah_ | apply ao_ | apply ai_) | exact HK.out)))); replace HK := Aside0.mk (ae_.trans (by repeat (first | (with_reducible first | exact HK.out | apply ae_.set_ | apply ah_ | apply ao_ | apply ai_) | exact HK.out)) (ae_.of_below hb g none) (.inl rfl)); replace HB := Aside0.mk (am_ (by repeat (first | (with_reducible first | exact HB.out | apply bA_ | apply bN_ | apply bD_ | refine ad_ ?_ (aa_.ge HI0.out)) | exact HB.out)) hb); replace HI0 := Aside0.mk (aa_.below (by repeat (first | (with_reducible first | exact HI0.out | apply aa_.alloc | apply aa_.drewN | apply aa_.drew | apply aa_.set_1 | apply aa_.set_2) | exact HI0.out)) hb); clear hb ho43; obtain ⟨Ao44, co44, eo44⟩ := Kd.bP_ HO146.out; subst eo44) | ((with_reducible refine bx_ (b := .append) (xs := #[.tmp 47, .tmp 59]) rfl ?_); at_builtin; refine Kd.N_append k28 w.heap.size rfl (.tmp 47) (.tmp 59) 35 28 (.agg #[(.string ⟨#[]⟩), (.slice none 0 0)]) 40 rfl Try.underlying35 info28 rfl (by decide) (by omega) u4 x4_2 (⟨(⟨#[110]⟩ : ByteArray) ++ (strOfNums y141), y144⟩ : S28) [.string ((⟨#[110]⟩ : ByteArray) ++ (strOfNums y141)), .slice Ao44 y144.length co44] (fun k_ => (w.heap.size ≤ k_) ∧ some k_ ≠ (v142 : Value).ownBlock ∧ k_ ≠ g) (fun k_ => ((fun k_ => (w.heap.size ≤ k_) ∧ some k_ ≠ (v142 : Value).ownBlock ∧ k_ ≠ g)) k_ ∧ some k_ ≠ (u4 : Value).ownBlock) rfl rfl ?aP (fun _ hk => hk) ?aF ?aO (Below.refl _ _) ?aS ?aL ?_; (case aP => exact (k28_mkF _ _ (⟨(⟨#[110]⟩ : ByteArray) ++ (strOfNums y141), y144⟩ : S28) (Kd.aD_ (Kd.bp_ (ok' := (fun k_ => ((fun k_ => (w.heap.size ≤ k_) ∧ some k_ ≠ (v142 : Value).ownBlock ∧ k_ ≠ g)) k_ ∧ some k_ ≠ (u4 : Value).ownBlock)) (aa_.apart HI0.out (Kd.cF_ (Kd.cF_ (HO146.out) (Kd.R_typed HO143.out) (by decide)) (Kd.N_typed HO_4.out) (by decide)) (by decide)) (fun k_ hk => ⟨⟨hk.1.1.1.1, ⟨hk.1.1.2, hk.2⟩⟩, hk.1.2⟩))).2.1 (Kd.R_F (Kd.bp_ (ok' := (fun k_ => ((fun k_ => (w.heap.size ≤ k_) ∧ some k_ ≠ (v142 : Value).ownBlock ∧ k_ ≠ g)) k_ ∧ some k_ ≠ (u4 : Value).ownBlock)) (aa_.apart HI0.out (Kd.cF_ (Kd.cF_ (HO146.out) (Kd.R_typed HO143.out) (by decide)) (Kd.N_typed HO_4.out) (by decide)) (by decide)) (fun k_ hk => ⟨⟨hk.1.1.1.1, ⟨hk.1.1.2, hk.2⟩⟩, hk.1.2⟩))))); (case aF => exact (fun k_ hk => ⟨(Nat.le_trans (be_ (w := w) (g := g) (row := none) (by repeat (first | (with_reducible first | exact HK.out | apply ae_.set_ | apply ah_ | apply ao_ | apply ai_) | exact HK.out))) hk), Kd.fresh' (Kd.R_lt (rz HO143.out)) k_ hk, aa_.fresh (by repeat (first | (with_reducible first | exact HI0.out | apply aa_.alloc | apply aa_.drewN | apply aa_.drew | apply aa_.set_1 | apply aa_.set_2) | exact HI0.out)) k_ hk⟩)); (case aO => exact (nz (Kd.bV_ HO_4.out (fun _ hk => ⟨hk.1.1.1, ⟨hk.1.2, hk.1.1.2⟩⟩)))); (case aS => exact (be_ (w := w) (g := g) (row := none) (by repeat (first | (with_reducible first | exact HK.out | apply ae_.set_ | apply ah_ | apply ao_ | apply ai_) | exact HK.out)))); (case aL => have := LMc38.out; omega); intro v148 w45 ho hb hg hat; rw [← Ny147.out] at ho; replace HO143 := Aside0.mk (Kd.R_over' (rz HO143.out) (Kd.N_typed (nz HO_4.out)) (by decide) hg); replace HB := Aside0.mk (below_weaken (by repeat (first | (with_reducible first | exact HB.out | apply bA_ | apply bN_ | apply bD_ | refine ad_ ?_ (aa_.ge HI0.out)) | exact HB.out)) HL.out hb); replace HI0 := Aside0.mk (aa_.grown (by repeat (first | (with_reducible first | exact HI0.out | apply aa_.alloc | apply aa_.drewN | apply aa_.drew | apply aa_.set_1 | apply aa_.set_2) | exact HI0.out)) hg (aa_.own_neN HI0.out HO_4.out (by decide))); replace HK := Aside0.mk (ae_.trans (by repeat (first | (with_reducible first | exact HK.out | apply ae_.set_ | apply ah_ | apply ao_ | apply ai_) | exact HK.out)) (ae_.of_grown hg g) (Kd.N_base2 HO_4.out)); have HO149 := Aside0.mk (ho); clear HO_4; clear HO146; clear ho hb hg hat))
       go_roundg k2
       case measure => have := HK1.out; have := HK2.out; omega
       case rel => exact ⟨(y147), (wrap64 (x7_2 + 1)), (by first | rfl | (simp; done) | (simp [*]; done)), H', ⟨by have := HK1.out; have := HK2.out; omega⟩, ⟨nz (Kd.bV_ HO149.out (fun _ hk => ⟨hk.1, hk.2.2⟩))⟩, ⟨by repeat (first | (with_reducible first | exact HI0.out | apply aa_.alloc | apply aa_.drewN | apply aa_.drew | apply aa_.set_1 | apply aa_.set_2) | exact HI0.out)⟩, ⟨by repeat (first | (with_reducible first | exact HK.out | apply ae_.set_ | apply ah_ | apply ao_ | apply ai_) | exact HK.out)⟩, ⟨by repeat (first | (with_reducible first | exact HB.out | apply bA_ | apply bN_ | apply bD_ | refine ad_ ?_ (aa_.ge HI0.out)) | exact HB.out)⟩⟩
    rw [if_pos c22] at H
    have c22b0 : (t120 == 0) = true := beq_iff_eq.mpr c22
    have c22b1 : (t120 != 0) = false := bne_eq_false_iff_eq.mpr c22
    clear c22
    (first | rw [c22b0] | (simp only [i64_w, i32_w]; rw [c22b0]) | (simp only [c22b1, Bool.not_true, Bool.not_false]) | (simp only [c22b0, Bool.not_true, Bool.not_false]) | skip)
    replace H := Option.bind_eq_some_iff.mp H
    obtain ⟨⟨t123, t124, t127, t128⟩, A230, H⟩ := H
    (try dsimp only at H)
    have A23 := Aside0.mk A230
    clear A230
    by_cases c24 : x4_1.length < 3518437208883
    rotate_left
    ·rw [if_neg c24] at H
     exact absurd H (by simp)
    rw [if_pos c24] at H
    have LMc24 := Aside0.mk c24
    clear c24
    obtain ⟨y129, hy129⟩ : ∃ y_ : List (S28), y_ = (x4_1 ++ [(⟨t123, t124⟩ : S28)]) := ⟨_, rfl⟩
    replace H : (some (y129, t127, t128)) = some (r1, r2, r3) := by first | (rw [hy129]; with_reducible exact H) | (have H2_ := (Option.bind_some _ _).symm.trans H; rw [hy129]; with_reducible exact H2_) | (have H2_ := (Option.bind_some _ _).symm.trans H; with_reducible exact H2_) | with_reducible exact H | (rw [hy129]; exact H) | exact H
    have Ny129 := Aside0.mk hy129
    clear hy129
    simp only [Option.some.injEq, Prod.mk.injEq] at H
    obtain ⟨rfl, rfl, rfl⟩ := H
    go_wp2_with (first | ((with_reducible refine av_ (f := 70) rfl ?_); refine bo_ (some 33) rfl rfl Try.func70 (by kernel_rfl) rfl #[.pointer (some ⟨g, 0, none⟩)] rfl (by first | rfl | (simp only [lma_, lmc_, lmn_]; first | done | rfl)) ?_; (with_reducible refine (ba_.calls k1 g s0_0 t121 t122 t123 t124 t127 t128 w0 _ ?side1 ?side2 A23.out).mono ?_); (case side1 => repeat (first | (with_reducible first | exact HI0.out | apply aa_.alloc | apply aa_.drewN | apply aa_.drew | apply aa_.set_1 | apply aa_.set_2) | exact HI0.out)); (case side2 => repeat (first | (with_reducible first | exact HB.out | apply bA_ | apply bN_ | apply bD_ | refine ad_ ?_ (aa_.ge HI0.out)) | exact HB.out)); rintro e w25 ⟨v125, rfl, ho0, hi, hb, hk⟩; refine ⟨_, rfl, ?_⟩; replace HO_3 := Aside0.mk (Kd.bp_ (Kd.cw_ (aa_.apart (show aa_ w0 _ g s0_0 t121 t122 from by repeat (first | (with_reducible first | exact HI0.out | apply aa_.alloc | apply aa_.drewN | apply aa_.drew | apply aa_.set_1 | apply aa_.set_2) | exact HI0.out)) (rz HO_3.out) (by decide)) hk (fun _ h => h.2)) (fun _ h => h.1)); replace HO_4 := Aside0.mk (Kd.bV_ (Kd.N_told (Kd.N_oldK (Kd.bV_ (ok := fun k_ => (((w.heap.size ≤ k_)) ∧ (some k_ ≠ (.slice Ao20 y101.length co20 : Value).ownBlock ∧ k_ ≠ g))) (nz HO_4.out) (fun k_ hk_ => (⟨hk_, hk_.2.2⟩ : _ ∧ k_ ≠ g))) hk) (Kd.Q_base ho0)) (fun _ h_ => h_.1)); have HO126 := Aside0.mk (Kd.Q_lower (Kd.Q_newM (M := fun k_ => (w.heap.size ≤ k_)) ho0 (be_ (w := w) (g := g) (row := none) (by repeat (first | (with_reducible first | exact HK.out | apply ae_.set_ | apply ah_ | apply ao_ | apply ai_) | exact HK.out))) (fun k_ h_ => h_)) (be_ (w := w) (g := g) (row := none) (by repeat (first | (with_reducible first | exact HK.out | apply ae_.set_ | apply ah_ | apply ao_ | apply ai_) | exact HK.out)))); replace HK := Aside0.mk (ae_.trans (by repeat (first | (with_reducible first | exact HK.out | apply ae_.set_ | apply ah_ | apply ao_ | apply ai_) | exact HK.out)) hk (.inl rfl)); replace HB := Aside0.mk (hb); replace HI0 := Aside0.mk (hi); (try clear hb); (try clear ho0); obtain ⟨Ao27, co27, eo27, _⟩ := Kd.Q_slice HO126.out; subst eo27) | ((with_reducible refine bx_ (b := .append) (xs := #[.tmp 31, .tmp 34]) rfl ?_); at_builtin; refine Kd.N_append k28 w.heap.size rfl (.tmp 31) (.tmp 34) 35 28 (.agg #[(.string ⟨#[]⟩), (.slice none 0 0)]) 40 rfl Try.underlying35 info28 rfl (by decide) (by omega) u4 x4_1 (⟨t123, t124⟩ : S28) [.string t123, .slice Ao27 t124.length co27] (fun k_ => (w.heap.size ≤ k_) ∧ some k_ ≠ (.slice Ao20 y101.length co20 : Value).ownBlock ∧ k_ ≠ g) (fun k_ => ((fun k_ => (w.heap.size ≤ k_) ∧ some k_ ≠ (.slice Ao20 y101.length co20 : Value).ownBlock ∧ k_ ≠ g)) k_ ∧ some k_ ≠ (u4 : Value).ownBlock) rfl rfl ?aP (fun _ hk => hk) ?aF ?aO (Below.refl _ _) ?aS ?aL ?_; (case aP => exact (k28_mkF _ _ (⟨t123, t124⟩ : S28) (Kd.aN_ (Kd.bJ_ (ok' := (fun k_ => ((fun k_ => (w.heap.size ≤ k_) ∧ some k_ ≠ (.slice Ao20 y101.length co20 : Value).ownBlock ∧ k_ ≠ g)) k_ ∧ some k_ ≠ (u4 : Value).ownBlock)) (aa_.apartQ HI0.out (Kd.Q_apart' (Kd.Q_apart' (HO126.out) (Kd.R_typed HO_3.out) (by decide)) (Kd.N_typed HO_4.out) (by decide)) (by decide)) (fun k_ hk => ⟨⟨hk.1.1.1.1, ⟨hk.1.1.2, hk.2⟩⟩, hk.1.2⟩))).2.1 (Kd.Q_F (Kd.bJ_ (ok' := (fun k_ => ((fun k_ => (w.heap.size ≤ k_) ∧ some k_ ≠ (.slice Ao20 y101.length co20 : Value).ownBlock ∧ k_ ≠ g)) k_ ∧ some k_ ≠ (u4 : Value).ownBlock)) (aa_.apartQ HI0.out (Kd.Q_apart' (Kd.Q_apart' (HO126.out) (Kd.R_typed HO_3.out) (by decide)) (Kd.N_typed HO_4.out) (by decide)) (by decide)) (fun k_ hk => ⟨⟨hk.1.1.1.1, ⟨hk.1.1.2, hk.2⟩⟩, hk.1.2⟩))))); (case aF => exact (fun k_ hk => ⟨(Nat.le_trans (be_ (w := w) (g := g) (row := none) (by repeat (first | (with_reducible first | exact HK.out | apply ae_.set_ | apply ah_ | apply ao_ | apply ai_) | exact HK.out))) hk), Kd.fresh' (Kd.R_lt (rz HO_3.out)) k_ hk, aa_.fresh (by repeat (first | (with_reducible first | exact HI0.out | apply aa_.alloc | apply aa_.drewN | apply aa_.drew | apply aa_.set_1 | apply aa_.set_2) | exact HI0.out)) k_ hk⟩)); (case aO => exact (nz (Kd.bV_ HO_4.out (fun _ hk => ⟨hk.1.1, ⟨hk.1.2.1, hk.1.2.2⟩⟩)))); (case aS => exact (be_ (w := w) (g := g) (row := none) (by repeat (first | (with_reducible first | exact HK.out | apply ae_.set_ | apply ah_ | apply ao_ | apply ai_) | exact HK.out)))); (case aL => have := LMc24.out; omega); intro v130 w26 ho hb hg hat; rw [← Ny129.out] at ho; replace HO_3 := Aside0.mk (Kd.R_over' (rz HO_3.out) (Kd.N_typed (nz HO_4.out)) (by decide) hg); replace HB := Aside0.mk (below_weaken (by repeat (first | (with_reducible first | exact HB.out | apply bA_ | apply bN_ | apply bD_ | refine ad_ ?_ (aa_.ge HI0.out)) | exact HB.out)) HL.out hb); replace HI0 := Aside0.mk (aa_.grown (by repeat (first | (with_reducible first | exact HI0.out | apply aa_.alloc | apply aa_.drewN | apply aa_.drew | apply aa_.set_1 | apply aa_.set_2) | exact HI0.out)) hg (aa_.own_neN HI0.out HO_4.out (by decide))); replace HK := Aside0.mk (ae_.trans (by repeat (first | (with_reducible first | exact HK.out | apply ae_.set_ | apply ah_ | apply ao_ | apply ai_) | exact HK.out)) (ae_.of_grown hg g) (Kd.N_base2 HO_4.out)); have HO131 := Aside0.mk (ho); clear HO_4; clear HO126; clear ho hb hg hat))
    go_ret
    exact ⟨_, by first | rfl | (simp [*, aH_, aG_] <;> rfl), nz (Kd.bV_ HO131.out (fun _ hk => hk.1)), by repeat (first | (with_reducible first | exact HI0.out | apply aa_.alloc | apply aa_.drewN | apply aa_.drew | apply aa_.set_1 | apply aa_.set_2) | exact HI0.out), by repeat (first | (with_reducible first | exact HB.out | apply bA_ | apply bN_ | apply bD_ | refine ad_ ?_ (aa_.ge HI0.out)) | exact HB.out), by repeat (first | (with_reducible first | exact HK.out | apply ae_.set_ | apply ah_ | apply ao_ | apply ai_) | exact HK.out)⟩
   rw [if_pos c6] at H
   have c6b0 : decide (x5_1 < (y101.length : Int)) = true := decide_eq_true c6
   clear c6
   replace H := Option.bind_eq_some_iff.mp H
   obtain ⟨⟨t107, t108, t109⟩, A70, H⟩ := H
   (try dsimp only at H)
   have A7 := Aside0.mk A70
   clear A70
   have HC8 := Aside0.mk H
   clear H
   obtain ⟨Ao9, co9, eo9⟩ := Kd.bP_ HO_3.out
   subst eo9
   go_upto_if 17 with (first | ((with_reducible refine av_ (f := 94) rfl ?_); refine bo_ (some 17) rfl rfl Try.func94 (by kernel_rfl) rfl #[.pointer (some ⟨g, 0, none⟩), .int .i64 2] rfl (by first | rfl | (simp only [lma_, lmc_, lmn_]; first | done | rfl)) ?_; (with_reducible refine (cg_.calls g s0_0 x1001_1 x1002_1 2 t107 t108 t109 w0 _ ?side1 ?side2 A7.out).mono ?_); (case side1 => repeat (first | (with_reducible first | exact HI0.out | apply aa_.alloc | apply aa_.drewN | apply aa_.drew | apply aa_.set_1 | apply aa_.set_2) | exact HI0.out)); (case side2 => repeat (first | (with_reducible first | exact HB.out | apply bA_ | apply bN_ | apply bD_ | refine ad_ ?_ (aa_.ge HI0.out)) | exact HB.out)); rintro e w10 ⟨rfl, hi, hb, hk⟩; refine ⟨_, rfl, ?_⟩; replace HO_3 := Aside0.mk (Kd.bp_ (Kd.cw_ (aa_.apart (show aa_ w0 _ g s0_0 x1001_1 x1002_1 from by repeat (first | (with_reducible first | exact HI0.out | apply aa_.alloc | apply aa_.drewN | apply aa_.drew | apply aa_.set_1 | apply aa_.set_2) | exact HI0.out)) (rz HO_3.out) (by decide)) hk (fun _ h => h.2)) (fun _ h => h.1)); replace HO_4 := Aside0.mk (Kd.bV_ (Kd.N_keep (Kd.bV_ (ok := fun k_ => (((w.heap.size ≤ k_)) ∧ (some k_ ≠ (.slice Ao9 y101.length co9 : Value).ownBlock ∧ k_ ≠ g))) (nz HO_4.out) (fun k_ hk_ => (⟨hk_, hk_.2.2⟩ : _ ∧ k_ ≠ g))) hk (fun _ h => h.2)) (fun _ h => h.1)); replace HK := Aside0.mk (ae_.trans (by repeat (first | (with_reducible first | exact HK.out | apply ae_.set_ | apply ah_ | apply ao_ | apply ai_) | exact HK.out)) hk (.inl rfl)); replace HB := Aside0.mk (hb); replace HI0 := Aside0.mk (hi); (try clear hb)))
   (try simp only [Act.put, lsa_, ls0_, ls1_])
   have H := HC8.out
   clear HC8
   by_cases c11 : t107 = true
   rotate_left
   ·replace c11 := Bool.eq_false_iff.mpr c11
    subst c11
    have H1 : (au_.l0 k1 y101 x4_1 (wrap64 (x5_1 + 1)) s0_0 t108 t109) = some (r1, r2, r3) := by rw [if_neg (show ¬ (false = true) by decide)] at H; exact H
    clear H
    have H := H1
    clear H1
    have H' := Aside0.mk H
    clear H
    go_wp2
    go_roundg k1
    case measure => have := HK1.out; omega
    case rel => exact ⟨(x4_1), (wrap64 (x5_1 + 1)), (t108), (t109), (by first | rfl | (simp; done) | (simp [*]; done)), H', ⟨by have := HK1.out; omega⟩, ⟨rz HO_3.out⟩, ⟨nz HO_4.out⟩, ⟨by repeat (first | (with_reducible first | exact HI0.out | apply aa_.alloc | apply aa_.drewN | apply aa_.drew | apply aa_.set_1 | apply aa_.set_2) | exact HI0.out)⟩, ⟨by repeat (first | (with_reducible first | exact HK.out | apply ae_.set_ | apply ah_ | apply ao_ | apply ai_) | exact HK.out)⟩, ⟨by repeat (first | (with_reducible first | exact HB.out | apply bA_ | apply bN_ | apply bD_ | refine ad_ ?_ (aa_.ge HI0.out)) | exact HB.out)⟩⟩
   subst c11
   have H1 : (if 0 ≤ x5_1 then ((aL_.f k1 s0_0 t108 t109 (rdOf ByteArray.empty y101 x5_1)).bind fun bt111 => (if x4_1.length < 3518437208883 then (au_.l0 k1 y101 (x4_1 ++ [(⟨bt111.1, bt111.2.1⟩ : S28)]) (wrap64 (x5_1 + 1)) s0_0 bt111.2.2.1 bt111.2.2.2) else (none))) else (none)) = some (r1, r2, r3) := by rw [if_pos rfl] at H; exact H
   clear H
   have H := H1
   clear H1
   by_cases c12 : 0 ≤ x5_1
   rotate_left
   ·rw [if_neg c12] at H
    exact absurd H (by simp)
   rw [if_pos c12] at H
   have c12b0 : decide (0 ≤ x5_1) = true := decide_eq_true c12
   clear c12
   (first | rw [c12b0] | (simp only [i64_w, i32_w]; rw [c12b0]) | (simp only [c12b1, Bool.not_true, Bool.not_false]) | (simp only [c12b0, Bool.not_true, Bool.not_false]) | skip)
   replace H := Option.bind_eq_some_iff.mp H
   obtain ⟨⟨t111, t112, t115, t116⟩, A130, H⟩ := H
   (try dsimp only at H)
   have A13 := Aside0.mk A130
   clear A130
   by_cases c14 : x4_1.length < 3518437208883
   rotate_left
   ·rw [if_neg c14] at H
    exact absurd H (by simp)
   rw [if_pos c14] at H
   have LMc14 := Aside0.mk c14
   clear c14
   obtain ⟨y117, hy117⟩ : ∃ y_ : List (S28), y_ = (x4_1 ++ [(⟨t111, t112⟩ : S28)]) := ⟨_, rfl⟩
   replace H : (au_.l0 k1 y101 y117 (wrap64 (x5_1 + 1)) s0_0 t115 t116) = some (r1, r2, r3) := by first | (rw [hy117]; with_reducible exact H) | (have H2_ := (Option.bind_some _ _).symm.trans H; rw [hy117]; with_reducible exact H2_) | (have H2_ := (Option.bind_some _ _).symm.trans H; with_reducible exact H2_) | with_reducible exact H | (rw [hy117]; exact H) | exact H
   have Ny117 := Aside0.mk hy117
   clear hy117
   have H' := Aside0.mk H
   clear H
   have p110 : 0 ≤ (x5_1 : Int) := of_decide_eq_true (by assumption)
   have q110 : x5_1 < (y101.length : Int) := of_decide_eq_true (by assumption)
   obtain ⟨ad110, e110, hx110_0⟩ := Kd.at_string (Kd.aD_ HO_3.out).2.2 x5_1 p110 q110
   cases e110
   replace p110 := eq_true p110
   replace q110 := eq_true q110
   go_wp2_with (first | ((with_reducible refine av_ (f := 90) rfl ?_); refine bo_ (some 24) rfl rfl Try.func90 (by kernel_rfl) rfl #[.pointer (some ⟨g, 0, none⟩), .string (rdOf ByteArray.empty y101 x5_1)] rfl (by first | rfl | (simp only [lma_, lmc_, lmn_]; first | done | rfl)) ?_; (with_reducible refine (aL_.calls k1 g s0_0 t108 t109 (rdOf ByteArray.empty y101 x5_1) t111 t112 t115 t116 w0 _ ?side1 ?side2 A13.out).mono ?_); (case side1 => repeat (first | (with_reducible first | exact HI0.out | apply aa_.alloc | apply aa_.drewN | apply aa_.drew | apply aa_.set_1 | apply aa_.set_2) | exact HI0.out)); (case side2 => repeat (first | (with_reducible first | exact HB.out | apply bA_ | apply bN_ | apply bD_ | refine ad_ ?_ (aa_.ge HI0.out)) | exact HB.out)); rintro e w15 ⟨v113, rfl, ho0, hi, hb, hk⟩; refine ⟨_, rfl, ?_⟩; replace HO_3 := Aside0.mk (Kd.bp_ (Kd.cw_ (aa_.apart (show aa_ w0 _ g s0_0 t108 t109 from by repeat (first | (with_reducible first | exact HI0.out | apply aa_.alloc | apply aa_.drewN | apply aa_.drew | apply aa_.set_1 | apply aa_.set_2) | exact HI0.out)) (rz HO_3.out) (by decide)) hk (fun _ h => h.2)) (fun _ h => h.1)); replace HO_4 := Aside0.mk (Kd.bV_ (Kd.N_told (Kd.N_oldK (Kd.bV_ (ok := fun k_ => (((w.heap.size ≤ k_)) ∧ (some k_ ≠ (.slice (some ad110) y101.length co9 : Value).ownBlock ∧ k_ ≠ g))) (nz HO_4.out) (fun k_ hk_ => (⟨hk_, hk_.2.2⟩ : _ ∧ k_ ≠ g))) hk) (Kd.cr_ ho0)) (fun _ h_ => h_.1)); have HO114 := Aside0.mk (Kd.bM_ (Kd.R_newM (M := fun k_ => (w.heap.size ≤ k_)) ho0 (be_ (w := w) (g := g) (row := none) (by repeat (first | (with_reducible first | exact HK.out | apply ae_.set_ | apply ah_ | apply ao_ | apply ai_) | exact HK.out))) (fun k_ h_ => h_)) (be_ (w := w) (g := g) (row := none) (by repeat (first | (with_reducible first | exact HK.out | apply ae_.set_ | apply ah_ | apply ao_ | apply ai_) | exact HK.out)))); replace HK := Aside0.mk (ae_.trans (by repeat (first | (with_reducible first | exact HK.out | apply ae_.set_ | apply ah_ | apply ao_ | apply ai_) | exact HK.out)) hk (.inl rfl)); replace HB := Aside0.mk (hb); replace HI0 := Aside0.mk (hi); (try clear hb); (try clear ho0); obtain ⟨Ao17, co17, eo17⟩ := Kd.bP_ HO114.out; subst eo17) | ((with_reducible refine bx_ (b := .append) (xs := #[.tmp 18, .tmp 25]) rfl ?_); at_builtin; refine Kd.N_append k28 w.heap.size rfl (.tmp 18) (.tmp 25) 35 28 (.agg #[(.string ⟨#[]⟩), (.slice none 0 0)]) 40 rfl Try.underlying35 info28 rfl (by decide) (by omega) u4 x4_1 (⟨t111, t112⟩ : S28) [.string t111, .slice Ao17 t112.length co17] (fun k_ => (w.heap.size ≤ k_) ∧ some k_ ≠ (.slice (some ad110) y101.length co9 : Value).ownBlock ∧ k_ ≠ g) (fun k_ => ((fun k_ => (w.heap.size ≤ k_) ∧ some k_ ≠ (.slice (some ad110) y101.length co9 : Value).ownBlock ∧ k_ ≠ g)) k_ ∧ some k_ ≠ (u4 : Value).ownBlock) rfl rfl ?aP (fun _ hk => hk) ?aF ?aO (Below.refl _ _) ?aS ?aL ?_; (case aP => exact (k28_mkF _ _ (⟨t111, t112⟩ : S28) (Kd.aD_ (Kd.bp_ (ok' := (fun k_ => ((fun k_ => (w.heap.size ≤ k_) ∧ some k_ ≠ (.slice (some ad110) y101.length co9 : Value).ownBlock ∧ k_ ≠ g)) k_ ∧ some k_ ≠ (u4 : Value).ownBlock)) (aa_.apart HI0.out (Kd.cF_ (Kd.cF_ (HO114.out) (Kd.R_typed HO_3.out) (by decide)) (Kd.N_typed HO_4.out) (by decide)) (by decide)) (fun k_ hk => ⟨⟨hk.1.1.1.1, ⟨hk.1.1.2, hk.2⟩⟩, hk.1.2⟩))).2.1 (Kd.R_F (Kd.bp_ (ok' := (fun k_ => ((fun k_ => (w.heap.size ≤ k_) ∧ some k_ ≠ (.slice (some ad110) y101.length co9 : Value).ownBlock ∧ k_ ≠ g)) k_ ∧ some k_ ≠ (u4 : Value).ownBlock)) (aa_.apart HI0.out (Kd.cF_ (Kd.cF_ (HO114.out) (Kd.R_typed HO_3.out) (by decide)) (Kd.N_typed HO_4.out) (by decide)) (by decide)) (fun k_ hk => ⟨⟨hk.1.1.1.1, ⟨hk.1.1.2, hk.2⟩⟩, hk.1.2⟩))))); (case aF => exact (fun k_ hk => ⟨(Nat.le_trans (be_ (w := w) (g := g) (row := none) (by repeat (first | (with_reducible first | exact HK.out | apply ae_.set_ | apply ah_ | apply ao_ | apply ai_) | exact HK.out))) hk), Kd.fresh' (Kd.R_lt (rz HO_3.out)) k_ hk, aa_.fresh (by repeat (first | (with_reducible first | exact HI0.out | apply aa_.alloc | apply aa_.drewN | apply aa_.drew | apply aa_.set_1 | apply aa_.set_2) | exact HI0.out)) k_ hk⟩)); (case aO => exact (nz (Kd.bV_ HO_4.out (fun _ hk => ⟨hk.1.1, ⟨hk.1.2.1, hk.1.2.2⟩⟩)))); (case aS => exact (be_ (w := w) (g := g) (row := none) (by repeat (first | (with_reducible first | exact HK.out | apply ae_.set_ | apply ah_ | apply ao_ | apply ai_) | exact HK.out)))); (case aL => have := LMc14.out; omega); intro v118 w16 ho hb hg hat; rw [← Ny117.out] at ho; replace HO_3 := Aside0.mk (Kd.R_over' (rz HO_3.out) (Kd.N_typed (nz HO_4.out)) (by decide) hg); replace HB := Aside0.mk (below_weaken (by repeat (first | (with_reducible first | exact HB.out | apply bA_ | apply bN_ | apply bD_ | refine ad_ ?_ (aa_.ge HI0.out)) | exact HB.out)) HL.out hb); replace HI0 := Aside0.mk (aa_.grown (by repeat (first | (with_reducible first | exact HI0.out | apply aa_.alloc | apply aa_.drewN | apply aa_.drew | apply aa_.set_1 | apply aa_.set_2) | exact HI0.out)) hg (aa_.own_neN HI0.out HO_4.out (by decide))); replace HK := Aside0.mk (ae_.trans (by repeat (first | (with_reducible first | exact HK.out | apply ae_.set_ | apply ah_ | apply ao_ | apply ai_) | exact HK.out)) (ae_.of_grown hg g) (Kd.N_base2 HO_4.out)); have HO119 := Aside0.mk (ho); clear HO_4; clear HO114; clear ho hb hg hat))
   go_roundg k1
   case measure => have := HK1.out; omega
   case rel => exact ⟨(y117), (wrap64 (x5_1 + 1)), (t115), (t116), (by first | rfl | (simp; done) | (simp [*]; done)), H', ⟨by have := HK1.out; omega⟩, ⟨rz HO_3.out⟩, ⟨nz HO119.out⟩, ⟨by repeat (first | (with_reducible first | exact HI0.out | apply aa_.alloc | apply aa_.drewN | apply aa_.drew | apply aa_.set_1 | apply aa_.set_2) | exact HI0.out)⟩, ⟨by repeat (first | (with_reducible first | exact HK.out | apply ae_.set_ | apply ah_ | apply ao_ | apply ai_) | exact HK.out)⟩, ⟨by repeat (first | (with_reducible first | exact HB.out | apply bA_ | apply bN_ | apply bD_ | refine ad_ ?_ (aa_.ge HI0.out)) | exact HB.out)⟩⟩
def bB_.f (k : Nat) (l0 : List Int) : Option ((List (S28)) × ByteArray × List Int) := (ch_.f l0).bind fun bt102 => ((au_.f k bt102.1 bt102.2.1 bt102.2.2).bind fun bt106 => ((ba_.f k bt102.1 bt106.2.1 bt106.2.2).bind fun bt111 => (some (bt106.1, bt111.1, bt111.2.1))))
set_option maxHeartbeats 8000000 in
set_option maxRecDepth 100000 in
theorem bB_.calls (k : Nat) (A0 : Option Addr) (c0 : Nat) (l0 : List Int) (r1 : List (S28)) (r2 : ByteArray) (r3 : List Int) (w : World) (hr0 : Kd.C (Kd.int .u8) w A0 l0.length l0) (hc0 : l0.length ≤ c0) (h : bB_.f k l0 = some (r1, r2, r3)) :
  Calls Try.prog 37 #[.slice A0 l0.length c0] w fun e w' => ∃ v0_ v2_ : Value, e = .returned (.tuple #[v0_, .agg #[.string r2, v2_]]) ∧ Kd.N k28 28 w' w.heap.size (fun k_ => (w.heap.size ≤ k_) ∧ some k_ ≠ (v2_ : Value).ownBlock) v0_ r1 ∧ Kd.Q (Kd.int .i64) 2 w' w.heap.size (fun k_ => (w.heap.size ≤ k_)) v2_ r3 ∧ Below w.heap.size w w' := by
 have hu28 := Try.underlying28
 have HR0 := Aside0.mk hr0
 have HC0 := Aside0.mk hc0
 clear hr0 hc0
 have HB := Aside0.mk (Below.refl w.heap.size w)
 have H : ((ch_.f l0).bind fun bt102 => ((au_.f k bt102.1 bt102.2.1 bt102.2.2).bind fun bt106 => ((ba_.f k bt102.1 bt106.2.1 bt106.2.2).bind fun bt111 => (some (bt106.1, bt111.1, bt111.2.1))))) = some (r1, r2, r3) := h
 clear h
 replace H := Option.bind_eq_some_iff.mp H
 obtain ⟨⟨t102, t103, t104⟩, A20, H⟩ := H
 (try dsimp only at H)
 have A2 := Aside0.mk A20
 clear A20
 replace H := Option.bind_eq_some_iff.mp H
 obtain ⟨⟨t106, t109, t110⟩, A30, H⟩ := H
 (try dsimp only at H)
 have A3 := Aside0.mk A30
 clear A30
 replace H := Option.bind_eq_some_iff.mp H
 obtain ⟨⟨t111, t112, t115, t116⟩, A40, H⟩ := H
 (try dsimp only at H)
 have A4 := Aside0.mk A40
 clear A40
 simp only [Option.some.injEq, Prod.mk.injEq] at H
 obtain ⟨rfl, rfl, rfl⟩ := H
 go_enter Try.func37, Try.ntmps37
 go_wp2_with (first | ((with_reducible refine bg_ (N := 3) rfl ?_); refine bt_ ?hg (N := 3) ?hd (cs := #[.string (⟨#[]⟩ : ByteArray), .slice none 0 0]) (t := 28) ?hr ?_; (case hd => rfl); (case hg => rfl); (case hr => (go_simp; try rfl)); intro gb101 hg w5 hbox hb; have BK101 := Aside0.mk (hbox); have GW101 := Aside0.mk ((by rw [hg]; exact (aA_ (bz HB.out)) : w.heap.size ≤ gb101)); have GE101 := GW101; replace HB := Aside0.mk (am_ (bz HB.out) hb); clear hb hbox hg) | ((with_reducible refine av_ (f := 69) rfl ?_); refine bo_ (some 7) rfl rfl Try.func69 (by kernel_rfl) rfl #[.slice A0 l0.length c0] rfl (by first | rfl | (simp only [lma_, lmc_, lmn_]; first | done | rfl)) ?_; (with_reducible refine (ch_.calls _ _ l0 t102 t103 t104 w _ ?side1 ?side2 ?side3 A2.out).mono ?_); (case side1 => repeat (first | (with_reducible first | exact HB.out | apply bA_ | apply bN_ | apply bD_ | refine ad_ ?_ GE101.out))); (case side2 => exact HR0.out); (case side3 => exact HC0.out); rintro e w6 ⟨g105, rfl, hi, hb, hb2⟩; refine ⟨_, rfl, ?_⟩; replace HB := Aside0.mk (hb); have HI105 := Aside0.mk (hi); have NB105_101 := Aside0.mk (aa_.ne_blk hi (ag_ (kz BK101.out) hb2) (by decide)); have NB101_105 := Aside0.mk (Ne.symm (aa_.ne_blk hi (ag_ (kz BK101.out) hb2) (by decide))); replace BK101 := Aside0.mk (ag_ (kz BK101.out) hb2); (try clear hb)) | ((with_reducible refine av_ (f := 71) rfl ?_); refine bo_ (some 9) rfl rfl Try.func71 (by kernel_rfl) rfl #[.pointer (some ⟨g105, 0, none⟩)] rfl (by first | rfl | (simp only [lma_, lmc_, lmn_]; first | done | rfl)) ?_; (with_reducible refine (au_.calls k g105 t102 t103 t104 t106 t109 t110 w _ ?side1 ?side2 A3.out).mono ?_); (case side1 => repeat (first | (with_reducible first | exact HI105.out | apply aa_.alloc | apply aa_.drewN | apply aa_.drew | apply aa_.set_1 | apply aa_.set_2 | refine aa_.far ?_ NB105_101.out _) | exact HI105.out)); (case side2 => repeat (first | (with_reducible first | exact HB.out | apply bA_ | apply bN_ | apply bD_ | refine ad_ ?_ (aa_.ge HI105.out) | refine ad_ ?_ GE101.out) | exact HB.out)); rintro e w7 ⟨v107, rfl, ho0, hi, hb, hk⟩; refine ⟨_, rfl, ?_⟩; have HO108 := Aside0.mk (Kd.N_lower (Kd.bV_ (ok' := fun k_ => (w.heap.size ≤ k_) ∧ k_ ≠ gb101 ∧ k_ ≠ g105) ho0 (fun k_ hk_ => ⟨(Nat.le_trans (aA_ (by repeat (first | (with_reducible first | exact HB.out | apply bA_ | apply bN_ | apply bD_ | refine ad_ ?_ (aa_.ge HI105.out) | refine ad_ ?_ GE101.out) | exact HB.out))) hk_), (Kd.freshB (g := gb101) (o := .cells #[.string (⟨#[]⟩ : ByteArray), .slice none 0 0] 28 (0, 0)) (kz BK101.out) k_ hk_), (aa_.fresh (by repeat (first | (with_reducible first | exact HI105.out | apply aa_.alloc | apply aa_.drewN | apply aa_.drew | apply aa_.set_1 | apply aa_.set_2 | refine aa_.far ?_ NB105_101.out _) | exact HI105.out)) k_ hk_)⟩)) (aA_ (by repeat (first | (with_reducible first | exact HB.out | apply bA_ | apply bN_ | apply bD_ | refine ad_ ?_ (aa_.ge HI105.out) | refine ad_ ?_ GE101.out) | exact HB.out)))); replace BK101 := Aside0.mk (ae_.blk hk (g' := gb101) (o := .cells #[.string (⟨#[]⟩ : ByteArray), .slice none 0 0] 28 (0, 0)) (kz BK101.out) NB101_105.out (by simp)); replace HB := Aside0.mk (hb); replace HI105 := Aside0.mk (hi); (try clear hb); (try clear ho0)) | ((with_reducible refine av_ (f := 70) rfl ?_); refine bo_ (some 12) rfl rfl Try.func70 (by kernel_rfl) rfl #[.pointer (some ⟨g105, 0, none⟩)] rfl (by first | rfl | (simp only [lma_, lmc_, lmn_]; first | done | rfl)) ?_; (with_reducible refine (ba_.calls k g105 t102 t109 t110 t111 t112 t115 t116 w _ ?side1 ?side2 A4.out).mono ?_); (case side1 => repeat (first | (with_reducible first | exact HI105.out | apply aa_.alloc | apply aa_.drewN | apply aa_.drew | apply aa_.set_1 | apply aa_.set_2 | refine aa_.far ?_ NB105_101.out _) | exact HI105.out)); (case side2 => repeat (first | (with_reducible first | exact HB.out | apply bA_ | apply bN_ | apply bD_ | refine ad_ ?_ (aa_.ge HI105.out) | refine ad_ ?_ GE101.out) | exact HB.out)); rintro e w8 ⟨v113, rfl, ho0, hi, hb, hk⟩; refine ⟨_, rfl, ?_⟩; replace BK101 := Aside0.mk (ae_.blk hk (g' := gb101) (o := .cells #[.string (⟨#[]⟩ : ByteArray), .slice none 0 0] 28 (0, 0)) (kz BK101.out) NB101_105.out (by simp)); replace HO108 := Aside0.mk (Kd.bV_ (Kd.N_told (Kd.N_oldK (Kd.bV_ (ok := fun k_ => (((w.heap.size ≤ k_)) ∧ (k_ ≠ gb101 ∧ k_ ≠ g105))) (nz HO108.out) (fun k_ hk_ => (⟨hk_, hk_.2.2⟩ : _ ∧ k_ ≠ g105))) hk) (Kd.Q_base ho0)) (fun _ h_ => h_.1)); have HO114 := Aside0.mk (Kd.Q_lower (Kd.Q_newM (M := fun k_ => (w.heap.size ≤ k_)) ho0 (aA_ (by repeat (first | (with_reducible first | exact HB.out | apply bA_ | apply bN_ | apply bD_ | refine ad_ ?_ (aa_.ge HI105.out) | refine ad_ ?_ GE101.out) | exact HB.out))) (fun k_ h_ => h_)) (aA_ (by repeat (first | (with_reducible first | exact HB.out | apply bA_ | apply bN_ | apply bD_ | refine ad_ ?_ (aa_.ge HI105.out) | refine ad_ ?_ GE101.out) | exact HB.out)))); replace HB := Aside0.mk (hb); replace HI105 := Aside0.mk (hi); (try clear hb); (try clear ho0); have hnb9 := NB101_105.out; have hnc9 := NB105_101.out; obtain ⟨hcz10_0, hcz10_1⟩ := cz2_ BK101.out; obtain ⟨hfz10_0, hfz10_1⟩ := fz2_ BK101.out; obtain ⟨Ao11, co11, eo11, _⟩ := Kd.Q_slice HO114.out; subst eo11))
 refine bodyPost_ret (results_tc rfl _ _ gb101 28 #[.string t111, .slice Ao11 t112.length co11] (0, 0) _ rfl (by exact kj2_1 (kj2_0 (kz BK101.out))) Try.underlying28 rfl (by kernel_rfl)) rfl ?_
 exact ⟨_, _, by first | rfl | (simp [*, aH_, aG_] <;> rfl), nz (Kd.bV_ (Kd.N_far (p := ⟨gb101, 1, none⟩) (Kd.N_far (p := ⟨gb101, 0, none⟩) (Kd.bV_ HO108.out (fun k_ hk => (⟨hk, hk.1.2.1⟩ : _ ∧ k_ ≠ gb101))) (fun _ hk => hk.2) (.string t111)) (fun _ hk => hk.2) (.slice Ao11 t112.length co11)) (fun _ hk => ⟨hk.1.1.1, hk.1.2⟩)), by (with_reducible repeat (first | apply Kd.ap_ | apply Kd.aq_ | apply Kd.as_)); exact Kd.bJ_ (Kd.Q_far (p := ⟨gb101, 1, none⟩) (Kd.Q_far (p := ⟨gb101, 0, none⟩) (Kd.bU_ HO114.out BK101.out (by decide)) (fun _ hk => hk.2) (.string t111)) (fun _ hk => hk.2) (.slice Ao11 t112.length co11)) (fun _ hk => hk.1.1), by repeat (first | (with_reducible first | exact HB.out | apply bA_ | apply bN_ | apply bD_ | refine ad_ ?_ (aa_.ge HI105.out) | refine ad_ ?_ GE101.out) | exact HB.out)⟩
def bR_.f (a0 : Int) : Option (Bool) := if a0 ≥ 97 then (some (decide (a0 ≤ 122))) else (some false)
set_option maxHeartbeats 8000000 in
set_option maxRecDepth 100000 in
theorem bR_.calls (a0 : Int) (r : Bool) (w : World) (h : bR_.f a0 = some r) :
  Calls Try.prog 84 #[.int .u8 a0] w fun e w' => e = .returned (.bool r) ∧ ax_ w w' := by
 have H : (if a0 ≥ 97 then (some (decide (a0 ≤ 122))) else (some false)) = some r := h
 clear h
 by_cases c2 : a0 ≥ 97
 rotate_left
 ·rw [if_neg c2] at H
  have c2b0 : decide (97 ≤ a0) = false := decide_eq_false c2
  clear c2
  obtain rfl := Option.some.inj H
  go_enter Try.func84, Try.ntmps84
  go_wp2
  go_ret
  exact ⟨by first | rfl | (simp; done) | (simp [*]; done), by repeat (first | exact ax_.refl _ | apply ax_.step)⟩
 rw [if_pos c2] at H
 have c2b0 : decide (97 ≤ a0) = true := decide_eq_true c2
 clear c2
 obtain rfl := Option.some.inj H
 go_enter Try.func84, Try.ntmps84
 go_wp2
 go_ret
 exact ⟨by first | rfl | (simp; done) | (simp [*]; done), by repeat (first | exact ax_.refl _ | apply ax_.step)⟩
def cp_.f (a0 : Int) : Option (Bool) := if a0 ≥ 48 then (some (decide (a0 ≤ 57))) else (some false)
set_option maxHeartbeats 8000000 in
set_option maxRecDepth 100000 in
theorem cp_.calls (a0 : Int) (r : Bool) (w : World) (h : cp_.f a0 = some r) :
  Calls Try.prog 85 #[.int .u8 a0] w fun e w' => e = .returned (.bool r) ∧ ax_ w w' := by
 have H : (if a0 ≥ 48 then (some (decide (a0 ≤ 57))) else (some false)) = some r := h
 clear h
 by_cases c2 : a0 ≥ 48
 rotate_left
 ·rw [if_neg c2] at H
  have c2b0 : decide (48 ≤ a0) = false := decide_eq_false c2
  clear c2
  obtain rfl := Option.some.inj H
  go_enter Try.func85, Try.ntmps85
  go_wp2
  go_ret
  exact ⟨by first | rfl | (simp; done) | (simp [*]; done), by repeat (first | exact ax_.refl _ | apply ax_.step)⟩
 rw [if_pos c2] at H
 have c2b0 : decide (48 ≤ a0) = true := decide_eq_true c2
 clear c2
 obtain rfl := Option.some.inj H
 go_enter Try.func85, Try.ntmps85
 go_wp2
 go_ret
 exact ⟨by first | rfl | (simp; done) | (simp [*]; done), by repeat (first | exact ax_.refl _ | apply ax_.step)⟩
mutual
def aO_.j0 : Nat → ByteArray → Bool → Option (Bool)
 | 0, _, _ => none
 | k + 1, x0, x16 => if x16 = true then (some false) else (aO_.l0 k x0 0)
def aO_.l0 : Nat → ByteArray → Int → Option (Bool)
 | 0, _, _ => none
 | k + 1, x0, x3 => if x3 < (x0.size : Int) then (if 0 ≤ x3 then ((bR_.f (bt x0 x3)).bind fun t102 => (if t102 = true then (aO_.l0 k x0 (wrap64 (x3 + 1))) else ((cp_.f (bt x0 x3)).bind fun t103 => (if t103 = true then (aO_.l0 k x0 (wrap64 (x3 + 1))) else (some false))))) else (none)) else (some true)
end
def aO_.f (k : Nat) (a0 : ByteArray) : Option (Bool) := if a0.toList = ([] : List UInt8) then (aO_.j0 k a0 true) else (if (a0.size : Int) > 10 then (aO_.j0 k a0 true) else (if 0 < (a0.size : Int) then ((bR_.f (bt a0 0)).bind fun t101 => (aO_.j0 k a0 (!t101))) else (none)))
set_option maxHeartbeats 8000000 in
set_option maxRecDepth 100000 in
theorem aO_.calls (k : Nat) (a0 : ByteArray) (r : Bool) (w : World) (h : aO_.f k a0 = some r) :
  Calls Try.prog 55 #[.string a0] w fun e w' => e = .returned (.bool r) ∧ ax_ w w' := by
 have H : (if a0.toList = ([] : List UInt8) then (aO_.j0 k a0 true) else (if (a0.size : Int) > 10 then (aO_.j0 k a0 true) else (if 0 < (a0.size : Int) then ((bR_.f (bt a0 0)).bind fun t101 => (aO_.j0 k a0 (!t101))) else (none)))) = some r := h
 clear h
 have HC2 := Aside0.mk H
 clear H
 go_enter Try.func55, Try.ntmps55
 go_upto_region 1 with (fail)
 go_cut [16] (fun v16 wc => ∃ (kq : Nat) (x16_1 : Bool), v16 = .bool x16_1 ∧ Aside0 (aO_.j0 kq a0 x16_1 = some r) ∧ Aside0 (kq ≤ k) ∧ ax_ w wc)
 case first =>
  have H := HC2.out
  clear HC2
  by_cases c3 : a0.toList = ([] : List UInt8)
  rotate_left
  ·rw [if_neg c3] at H
   have c3b0 : (a0.toList == ([] : List UInt8)) = false := beq_eq_false_iff_ne.mpr c3
   have c3b1 : (a0.toList != ([] : List UInt8)) = true := bne_iff_ne.mpr c3
   (try (have c3b8 := c3b0; simp only [List.beq_nil_eq] at c3b8))
   (first | rw [c3b0] | (simp only [i64_w, i32_w]; rw [c3b0]) | (simp only [c3b1, Bool.not_true, Bool.not_false]) | (simp only [c3b0, Bool.not_true, Bool.not_false]) | rw [c3b8] | (simp only [c3b8, Bool.not_true, Bool.not_false]) | skip)
   by_cases c4 : (a0.size : Int) > 10
   rotate_left
   ·rw [if_neg c4] at H
    have c4b0 : decide (10 < (a0.size : Int)) = false := decide_eq_false c4
    have c4b1 : decide (10 < a0.size) = false := decide_eq_false (by omega)
    clear c4
    by_cases c5 : 0 < (a0.size : Int)
    rotate_left
    ·rw [if_neg c5] at H
     exact absurd H (by simp)
    rw [if_pos c5] at H
    have c5b0 : decide (0 < (a0.size : Int)) = true := decide_eq_true c5
    have c5b1 : decide (0 < a0.size) = true := decide_eq_true (by omega)
    clear c5
    replace H := Option.bind_eq_some_iff.mp H
    obtain ⟨t101, A70, H⟩ := H
    (try dsimp only at H)
    have A7 := Aside0.mk A70
    clear A70
    have H' := Aside0.mk H
    clear H
    have p6 : 0 ≤ (0 : Int) := (by omega)
    have q6 : 0 < a0.size := (by have : (0 : Int) < (a0.size : Int) := of_decide_eq_true (by assumption); omega)
    have hx6 : ∀ h : 0 < a0.size, ((a0[0]'h).toNat : Int) = bt a0 0 := bt_at a0 0
    clear p6
    have qi6 : (0 < (a0.size : Int)) = True := eq_true (of_decide_eq_true (by assumption))
    replace q6 := eq_true q6
    go_wp2_with (first | (go_at_call 84; (with_reducible refine (bR_.calls (bt a0 0) t101 _ A7.out).mono ?_); rintro e w' ⟨rfl, ⟨nd, rfl⟩⟩))
    go_meet
    case rel => exact ⟨_, (!t101), (by first | rfl | (simp; done) | (simp [*]; done)), H', ⟨by first | omega | exact Nat.le_refl _⟩, by repeat (first | exact ax_.refl _ | apply ax_.step)⟩
   rw [if_pos c4] at H
   have c4b0 : decide (10 < (a0.size : Int)) = true := decide_eq_true c4
   have c4b1 : decide (10 < a0.size) = true := decide_eq_true (by omega)
   clear c4
   have H' := Aside0.mk H
   clear H
   go_wp2
   go_meet
   case rel => exact ⟨_, (true), (by first | rfl | (simp; done) | (simp [*]; done)), H', ⟨by first | omega | exact Nat.le_refl _⟩, by repeat (first | exact ax_.refl _ | apply ax_.step)⟩
  rw [if_pos c3] at H
  have c3b0 : (a0.toList == ([] : List UInt8)) = true := beq_iff_eq.mpr c3
  have c3b1 : (a0.toList != ([] : List UInt8)) = false := bne_eq_false_iff_eq.mpr c3
  (try (have c3b8 := c3b0; simp only [List.beq_nil_eq] at c3b8))
  clear c3
  (first | rw [c3b0] | (simp only [i64_w, i32_w]; rw [c3b0]) | (simp only [c3b1, Bool.not_true, Bool.not_false]) | (simp only [c3b0, Bool.not_true, Bool.not_false]) | rw [c3b8] | (simp only [c3b8, Bool.not_true, Bool.not_false]) | skip)
  have H' := Aside0.mk H
  clear H
  go_wp2
  go_meet
  case rel => exact ⟨_, (true), (by first | rfl | (simp; done) | (simp [*]; done)), H', ⟨by first | omega | exact Nat.le_refl _⟩, by repeat (first | exact ax_.refl _ | apply ax_.step)⟩
 case rest =>
  clear HC2
  obtain ⟨kq, x16_1, rfl, HA, HJ1, ⟨mc1, rfl⟩⟩ := hcut
  cases kq with
  | zero => exact absurd HA.out (by simp [aO_.j0])
  | succ kj1 =>
   have H := HA.out
   clear HA
   simp only [aO_.j0] at H
   by_cases c8 : x16_1 = true
   rotate_left
   ·replace c8 := Bool.eq_false_iff.mpr c8
    subst c8
    have H1 : (aO_.l0 kj1 a0 0) = some r := by rw [if_neg (show ¬ (false = true) by decide)] at H; exact H
    clear H
    have H := H1
    clear H1
    have H' := Aside0.mk H
    clear H
    go_wp2
    (try simp only [Act.put, lsa_, ls0_, ls1_])
    go_loopg [3] kj1 (fun kq v3 w' => ∃ (x3_2 : Int), v3 = .int .i64 x3_2 ∧ Aside0 (aO_.l0 kq a0 x3_2 = some r) ∧ Aside0 (kq ≤ kj1) ∧ ax_ w w')
    case atStart => exact ⟨(0), (by first | rfl | (simp; done) | (simp [*]; done)), H', ⟨Nat.le_refl _⟩, by repeat (first | exact ax_.refl _ | apply ax_.step)⟩
    case round =>
     clear H'
     obtain ⟨x3_2, rfl, HA, HK2, ⟨m2, rfl⟩⟩ := hrel
     cases gk with
     | zero => exact absurd HA.out (by simp [aO_.l0])
     | succ k2 =>
      have H := HA.out
      clear HA
      simp only [aO_.l0] at H
      by_cases c9 : x3_2 < (a0.size : Int)
      rotate_left
      ·rw [if_neg c9] at H
       have c9b0 : decide (x3_2 < (a0.size : Int)) = false := decide_eq_false c9
       clear c9
       obtain rfl := Option.some.inj H
       go_wp2
       go_ret
       exact ⟨by first | rfl | (simp; done) | (simp [*]; done), by repeat (first | exact ax_.refl _ | apply ax_.step)⟩
      rw [if_pos c9] at H
      have c9b0 : decide (x3_2 < (a0.size : Int)) = true := decide_eq_true c9
      clear c9
      by_cases c10 : 0 ≤ x3_2
      rotate_left
      ·rw [if_neg c10] at H
       exact absurd H (by simp)
      rw [if_pos c10] at H
      have c10b0 : decide (0 ≤ x3_2) = true := decide_eq_true c10
      clear c10
      replace H := Option.bind_eq_some_iff.mp H
      obtain ⟨t102, A120, H⟩ := H
      (try dsimp only at H)
      have A12 := Aside0.mk A120
      clear A120
      by_cases c13 : t102 = true
      rotate_left
      ·replace c13 := Bool.eq_false_iff.mpr c13
       subst c13
       have H1 : ((cp_.f (bt a0 x3_2)).bind fun t103 => (if t103 = true then (aO_.l0 k2 a0 (wrap64 (x3_2 + 1))) else (some false))) = some r := by rw [if_neg (show ¬ (false = true) by decide)] at H; exact H
       clear H
       have H := H1
       clear H1
       replace H := Option.bind_eq_some_iff.mp H
       obtain ⟨t103, A150, H⟩ := H
       (try dsimp only at H)
       have A15 := Aside0.mk A150
       clear A150
       have HC16 := Aside0.mk H
       clear H
       have p11 : 0 ≤ (x3_2 : Int) := of_decide_eq_true (by assumption)
       have q11 : x3_2 < (a0.size : Int) := of_decide_eq_true (by assumption)
       have hx11 := bt_at a0 x3_2
       replace p11 := eq_true p11
       replace q11 := eq_true q11
       go_upto_if 34 with (first | ((with_reducible refine av_ (f := 84) rfl ?_); refine bo_ (some 26) rfl rfl Try.func84 (by kernel_rfl) rfl #[.int .u8 (bt a0 x3_2)] rfl (by first | rfl | (simp only [lma_, lmc_, lmn_]; first | done | rfl)) ?_; (with_reducible refine (bR_.calls (bt a0 x3_2) false _ A12.out).mono ?_); rintro e w' ⟨rfl, ⟨nd, rfl⟩⟩; refine ⟨_, rfl, ?_⟩; skip; have p14 : 0 ≤ (x3_2 : Int) := of_decide_eq_true (by assumption); have q14 : x3_2 < (a0.size : Int) := of_decide_eq_true (by assumption); have hx14 := bt_at a0 x3_2; replace p14 := eq_true p14; replace q14 := eq_true q14) | (go_at_call 85; (with_reducible refine (cp_.calls (bt a0 x3_2) t103 _ A15.out).mono ?_); rintro e w' ⟨rfl, ⟨nd, rfl⟩⟩; skip))
       (try simp only [Act.put, lsa_, ls0_, ls1_])
       have H := HC16.out
       clear HC16
       by_cases c17 : t103 = true
       rotate_left
       ·replace c17 := Bool.eq_false_iff.mpr c17
        subst c17
        have H1 : (some false) = some r := by rw [if_neg (show ¬ (false = true) by decide)] at H; exact H
        clear H
        have H := H1
        clear H1
        obtain rfl := Option.some.inj H
        go_wp2
        go_ret
        exact ⟨by first | rfl | (simp; done) | (simp [*]; done), by repeat (first | exact ax_.refl _ | apply ax_.step)⟩
       subst c17
       have H1 : (aO_.l0 k2 a0 (wrap64 (x3_2 + 1))) = some r := by rw [if_pos rfl] at H; exact H
       clear H
       have H := H1
       clear H1
       have H' := Aside0.mk H
       clear H
       go_wp2
       go_roundg k2
       case measure => have := HJ1.out; have := HK2.out; omega
       case rel => exact ⟨(wrap64 (x3_2 + 1)), (by first | rfl | (simp; done) | (simp [*]; done)), H', ⟨by have := HJ1.out; have := HK2.out; omega⟩, by repeat (first | exact ax_.refl _ | apply ax_.step)⟩
      subst c13
      have H1 : (aO_.l0 k2 a0 (wrap64 (x3_2 + 1))) = some r := by rw [if_pos rfl] at H; exact H
      clear H
      have H := H1
      clear H1
      have H' := Aside0.mk H
      clear H
      have p11 : 0 ≤ (x3_2 : Int) := of_decide_eq_true (by assumption)
      have q11 : x3_2 < (a0.size : Int) := of_decide_eq_true (by assumption)
      have hx11 := bt_at a0 x3_2
      replace p11 := eq_true p11
      replace q11 := eq_true q11
      go_wp2_with (first | ((with_reducible refine av_ (f := 84) rfl ?_); refine bo_ (some 26) rfl rfl Try.func84 (by kernel_rfl) rfl #[.int .u8 (bt a0 x3_2)] rfl (by first | rfl | (simp only [lma_, lmc_, lmn_]; first | done | rfl)) ?_; (with_reducible refine (bR_.calls (bt a0 x3_2) true _ A12.out).mono ?_); rintro e w' ⟨rfl, ⟨nd, rfl⟩⟩; refine ⟨_, rfl, ?_⟩))
      go_roundg k2
      case measure => have := HJ1.out; have := HK2.out; omega
      case rel => exact ⟨(wrap64 (x3_2 + 1)), (by first | rfl | (simp; done) | (simp [*]; done)), H', ⟨by have := HJ1.out; have := HK2.out; omega⟩, by repeat (first | exact ax_.refl _ | apply ax_.step)⟩
   subst c8
   have H1 : (some false) = some r := by rw [if_pos rfl] at H; exact H
   clear H
   have H := H1
   clear H1
   obtain rfl := Option.some.inj H
   go_wp2
   go_ret
   exact ⟨by first | rfl | (simp; done) | (simp [*]; done), by repeat (first | exact ax_.refl _ | apply ax_.step)⟩
def spec_l00In.f (a0 : Int) (a1 : Int) (a2 : Int) : Option (Bool) := if a0 ≥ a1 then (some (decide (a0 ≤ a2))) else (some false)
set_option maxHeartbeats 8000000 in
set_option maxRecDepth 100000 in
theorem spec_l00In.calls (a0 : Int) (a1 : Int) (a2 : Int) (r : Bool) (w : World) (h : spec_l00In.f a0 a1 a2 = some r) :
  Calls Try.prog 65 #[.int .i64 a0, .int .i64 a1, .int .i64 a2] w fun e w' => e = .returned (.bool r) ∧ ax_ w w' := by
 have H : (if a0 ≥ a1 then (some (decide (a0 ≤ a2))) else (some false)) = some r := h
 clear h
 by_cases c4 : a0 ≥ a1
 rotate_left
 ·rw [if_neg c4] at H
  have c4b0 : decide (a1 ≤ a0) = false := decide_eq_false c4
  clear c4
  obtain rfl := Option.some.inj H
  go_enter Try.func65, Try.ntmps65
  go_wp2
  go_ret
  exact ⟨by first | rfl | (simp; done) | (simp [*]; done), by repeat (first | exact ax_.refl _ | apply ax_.step)⟩
 rw [if_pos c4] at H
 have c4b0 : decide (a1 ≤ a0) = true := decide_eq_true c4
 clear c4
 obtain rfl := Option.some.inj H
 go_enter Try.func65, Try.ntmps65
 go_wp2
 go_ret
 exact ⟨by first | rfl | (simp; done) | (simp [*]; done), by repeat (first | exact ax_.refl _ | apply ax_.step)⟩
mutual
def aB_.j0 : Nat → List (S28) → Bool → Option (Bool)
 | 0, _, _ => none
 | k + 1, x0, x17 => if x17 = true then (some false) else (aB_.l0 k x0 0)
def aB_.l0 : Nat → List (S28) → Int → Option (Bool)
 | 0, _, _ => none
 | k + 1, x0, x3 => if 0 < (x0.length : Int) then (if x3 < (((af_ x0 0).f1).length : Int) then (if 0 ≤ x3 then ((spec_l00In.f (rd ((af_ x0 0).f1) x3) 0 255).bind fun t107 => (if t107 = true then (aB_.l0 k x0 (wrap64 (x3 + 1))) else (some false))) else (none)) else (some true)) else (none)
end
def aB_.f (k : Nat) (l0 : List (S28)) : Option (Bool) := if 0 < (l0.length : Int) then ((aO_.f k ((af_ l0 0).f0)).bind fun t102 => (if t102 = true then (aB_.j0 k l0 ((((af_ l0 0).f1).length : Int) != 6)) else (aB_.j0 k l0 true))) else (none)
set_option maxHeartbeats 8000000 in
set_option maxRecDepth 100000 in
theorem aB_.calls (k : Nat) (A0 : Option Addr) (l0 : List (S28)) (r : Bool) (w : World) (hr0 : Kd.C k28 w A0 l0.length l0) (h : aB_.f k l0 = some r) :
  Calls Try.prog 50 #[.pointer A0] w fun e w' => e = .returned (.bool r) ∧ ax_ w w' := by
 have HR0 := Aside0.mk hr0
 clear hr0
 have H : (if 0 < (l0.length : Int) then ((aO_.f k ((af_ l0 0).f0)).bind fun t102 => (if t102 = true then (aB_.j0 k l0 ((((af_ l0 0).f1).length : Int) != 6)) else (aB_.j0 k l0 true))) else (none)) = some r := h
 clear h
 have HC2 := Aside0.mk H
 clear H
 go_enter Try.func50, Try.ntmps50
 go_upto_region 1 with (fail)
 go_cut [17] (fun v17 wc => ∃ (kq : Nat) (x17_1 : Bool), v17 = .bool x17_1 ∧ Aside0 (aB_.j0 kq l0 x17_1 = some r) ∧ Aside0 (kq ≤ k) ∧ ax_ w wc)
 case first =>
  have H := HC2.out
  clear HC2
  by_cases c3 : 0 < (l0.length : Int)
  rotate_left
  ·rw [if_neg c3] at H
   exact absurd H (by simp)
  rw [if_pos c3] at H
  have c3b0 : decide (0 < (l0.length : Int)) = true := decide_eq_true c3
  have c3b1 : decide (0 < l0.length) = true := decide_eq_true (by omega)
  clear c3
  (first | rw [c3b0] | (simp only [i64_w, i32_w]; rw [c3b0]) | (simp only [c3b1, Bool.not_true, Bool.not_false]) | (simp only [c3b0, Bool.not_true, Bool.not_false]) | skip)
  replace H := Option.bind_eq_some_iff.mp H
  obtain ⟨t102, A40, H⟩ := H
  (try dsimp only at H)
  have A4 := Aside0.mk A40
  clear A40
  by_cases c5 : t102 = true
  rotate_left
  ·replace c5 := Bool.eq_false_iff.mpr c5
   subst c5
   have H1 : (aB_.j0 k l0 true) = some r := by rw [if_neg (show ¬ (false = true) by decide)] at H; exact H
   clear H
   have H := H1
   clear H1
   have H' := Aside0.mk H
   clear H
   have p101 : 0 ≤ (0 : Int) := (by omega)
   have q101 : 0 < (l0.length : Int) := of_decide_eq_true (by assumption)
   obtain ⟨ad101, A101_1, c101_1, e101, hx101_0, hx101_1, hl101_1, hi101_1⟩ := bY_ HR0.out 0 p101 q101
   cases e101
   have qi101 : (0 < l0.length) = True := eq_true (by omega)
   (try simp only [Int.toNat_zero, Nat.zero_mul, Addr.add_zero'] at hx101_0 hx101_1)
   have HR101_1 := Aside0.mk hi101_1
   have HC101_1 := Aside0.mk hl101_1
   clear hi101_1 hl101_1
   replace p101 := eq_true p101
   replace q101 := eq_true q101
   go_wp2_with (first | ((with_reducible refine av_ (f := 55) rfl ?_); refine bo_ (some 8) rfl rfl Try.func55 (by kernel_rfl) rfl #[.string ((af_ l0 0).f0)] rfl (by first | rfl | (simp only [lma_, lmc_, lmn_]; first | done | rfl)) ?_; (with_reducible refine (aO_.calls k ((af_ l0 0).f0) false _ A4.out).mono ?_); rintro e w' ⟨rfl, ⟨nd, rfl⟩⟩; refine ⟨_, rfl, ?_⟩))
   go_meet
   case rel => exact ⟨_, (true), (by first | rfl | (simp; done) | (simp [*]; done)), H', ⟨by first | omega | exact Nat.le_refl _⟩, by repeat (first | exact ax_.refl _ | apply ax_.step)⟩
  subst c5
  have H1 : (aB_.j0 k l0 ((((af_ l0 0).f1).length : Int) != 6)) = some r := by rw [if_pos rfl] at H; exact H
  clear H
  have H := H1
  clear H1
  have H' := Aside0.mk H
  clear H
  have p101 : 0 ≤ (0 : Int) := (by omega)
  have q101 : 0 < (l0.length : Int) := of_decide_eq_true (by assumption)
  obtain ⟨ad101, A101_1, c101_1, e101, hx101_0, hx101_1, hl101_1, hi101_1⟩ := bY_ HR0.out 0 p101 q101
  cases e101
  have qi101 : (0 < l0.length) = True := eq_true (by omega)
  (try simp only [Int.toNat_zero, Nat.zero_mul, Addr.add_zero'] at hx101_0 hx101_1)
  have HR101_1 := Aside0.mk hi101_1
  have HC101_1 := Aside0.mk hl101_1
  clear hi101_1 hl101_1
  replace p101 := eq_true p101
  replace q101 := eq_true q101
  go_wp2_with (first | ((with_reducible refine av_ (f := 55) rfl ?_); refine bo_ (some 8) rfl rfl Try.func55 (by kernel_rfl) rfl #[.string ((af_ l0 0).f0)] rfl (by first | rfl | (simp only [lma_, lmc_, lmn_]; first | done | rfl)) ?_; (with_reducible refine (aO_.calls k ((af_ l0 0).f0) true _ A4.out).mono ?_); rintro e w' ⟨rfl, ⟨nd, rfl⟩⟩; refine ⟨_, rfl, ?_⟩; have p103 : 0 ≤ (0 : Int) := (by omega); have q103 : 0 < (l0.length : Int) := of_decide_eq_true (by assumption); obtain ⟨ad103, A103_1, c103_1, e103, hx103_0, hx103_1, hl103_1, hi103_1⟩ := bY_ HR0.out 0 p103 q103; obtain rfl : ad101 = ad103 := (by injection e103); have qi103 : (0 < l0.length) = True := eq_true (by omega); (try simp only [Int.toNat_zero, Nat.zero_mul, Addr.add_zero'] at hx103_0 hx103_1); have HR103_1 := Aside0.mk hi103_1; have HC103_1 := Aside0.mk hl103_1; clear hi103_1 hl103_1; replace p103 := eq_true p103; replace q103 := eq_true q103; have ea_ := Option.some.inj (hx101_1.symm.trans hx103_1); injection ea_ with ea_ en_ ec_; (try subst ea_); (try subst ec_); (try clear ea_ ec_); clear en_))
  go_meet
  case rel => exact ⟨_, (((((af_ l0 0).f1).length : Int) != 6)), (by first | rfl | (simp; done) | (simp [*]; done)), H', ⟨by first | omega | exact Nat.le_refl _⟩, by repeat (first | exact ax_.refl _ | apply ax_.step)⟩
 case rest =>
  clear HC2
  obtain ⟨kq, x17_1, rfl, HA, HJ1, ⟨mc1, rfl⟩⟩ := hcut
  cases kq with
  | zero => exact absurd HA.out (by simp [aB_.j0])
  | succ kj1 =>
   have H := HA.out
   clear HA
   simp only [aB_.j0] at H
   by_cases c6 : x17_1 = true
   rotate_left
   ·replace c6 := Bool.eq_false_iff.mpr c6
    subst c6
    have H1 : (aB_.l0 kj1 l0 0) = some r := by rw [if_neg (show ¬ (false = true) by decide)] at H; exact H
    clear H
    have H := H1
    clear H1
    have H' := Aside0.mk H
    clear H
    go_wp2
    (try simp only [Act.put, lsa_, ls0_, ls1_])
    go_loopg [3] kj1 (fun kq v3 w' => ∃ (x3_2 : Int), v3 = .int .i64 x3_2 ∧ Aside0 (aB_.l0 kq l0 x3_2 = some r) ∧ Aside0 (kq ≤ kj1) ∧ ax_ w w')
    case atStart => exact ⟨(0), (by first | rfl | (simp; done) | (simp [*]; done)), H', ⟨Nat.le_refl _⟩, by repeat (first | exact ax_.refl _ | apply ax_.step)⟩
    case round =>
     clear H'
     obtain ⟨x3_2, rfl, HA, HK2, ⟨m2, rfl⟩⟩ := hrel
     cases gk with
     | zero => exact absurd HA.out (by simp [aB_.l0])
     | succ k2 =>
      have H := HA.out
      clear HA
      simp only [aB_.l0] at H
      by_cases c7 : 0 < (l0.length : Int)
      rotate_left
      ·rw [if_neg c7] at H
       exact absurd H (by simp)
      rw [if_pos c7] at H
      have c7b0 : decide (0 < (l0.length : Int)) = true := decide_eq_true c7
      have c7b1 : decide (0 < l0.length) = true := decide_eq_true (by omega)
      clear c7
      by_cases c8 : x3_2 < (((af_ l0 0).f1).length : Int)
      rotate_left
      ·rw [if_neg c8] at H
       have c8b0 : decide (x3_2 < (((af_ l0 0).f1).length : Int)) = false := decide_eq_false c8
       clear c8
       obtain rfl := Option.some.inj H
       have p104 : 0 ≤ (0 : Int) := (by omega)
       have q104 : 0 < (l0.length : Int) := of_decide_eq_true (by assumption)
       obtain ⟨ad104, A104_1, c104_1, e104, hx104_0, hx104_1, hl104_1, hi104_1⟩ := bY_ HR0.out 0 p104 q104
       cases e104
       have qi104 : (0 < l0.length) = True := eq_true (by omega)
       (try simp only [Int.toNat_zero, Nat.zero_mul, Addr.add_zero'] at hx104_0 hx104_1)
       have HR104_1 := Aside0.mk hi104_1
       have HC104_1 := Aside0.mk hl104_1
       clear hi104_1 hl104_1
       replace p104 := eq_true p104
       replace q104 := eq_true q104
       (try clear hx101_1)
       (try clear hx103_1)
       (try clear hx101_1)
       go_wp2
       go_ret
       exact ⟨by first | rfl | (simp; done) | (simp [*]; done), by repeat (first | exact ax_.refl _ | apply ax_.step)⟩
      rw [if_pos c8] at H
      have c8b0 : decide (x3_2 < (((af_ l0 0).f1).length : Int)) = true := decide_eq_true c8
      clear c8
      by_cases c9 : 0 ≤ x3_2
      rotate_left
      ·rw [if_neg c9] at H
       exact absurd H (by simp)
      rw [if_pos c9] at H
      have c9b0 : decide (0 ≤ x3_2) = true := decide_eq_true c9
      clear c9
      replace H := Option.bind_eq_some_iff.mp H
      obtain ⟨t107, A100, H⟩ := H
      (try dsimp only at H)
      have A10 := Aside0.mk A100
      clear A100
      have HC11 := Aside0.mk H
      clear H
      have p104 : 0 ≤ (0 : Int) := (by omega)
      have q104 : 0 < (l0.length : Int) := of_decide_eq_true (by assumption)
      obtain ⟨ad104, A104_1, c104_1, e104, hx104_0, hx104_1, hl104_1, hi104_1⟩ := bY_ HR0.out 0 p104 q104
      cases e104
      have qi104 : (0 < l0.length) = True := eq_true (by omega)
      (try simp only [Int.toNat_zero, Nat.zero_mul, Addr.add_zero'] at hx104_0 hx104_1)
      have HR104_1 := Aside0.mk hi104_1
      have HC104_1 := Aside0.mk hl104_1
      clear hi104_1 hl104_1
      replace p104 := eq_true p104
      replace q104 := eq_true q104
      (try clear hx101_1)
      (try clear hx103_1)
      (try clear hx101_1)
      have p105 : 0 ≤ (0 : Int) := (by omega)
      have q105 : 0 < (l0.length : Int) := of_decide_eq_true (by assumption)
      obtain ⟨ad105, A105_1, c105_1, e105, hx105_0, hx105_1, hl105_1, hi105_1⟩ := bY_ HR0.out 0 p105 q105
      obtain rfl : ad104 = ad105 := (by injection e105)
      have qi105 : (0 < l0.length) = True := eq_true (by omega)
      (try simp only [Int.toNat_zero, Nat.zero_mul, Addr.add_zero'] at hx105_0 hx105_1)
      have HR105_1 := Aside0.mk hi105_1
      have HC105_1 := Aside0.mk hl105_1
      clear hi105_1 hl105_1
      replace p105 := eq_true p105
      replace q105 := eq_true q105
      have ea_ := Option.some.inj (hx104_1.symm.trans hx105_1)
      injection ea_ with ea_ en_ ec_
      (try subst ea_)
      (try subst ec_)
      (try clear ea_ ec_)
      clear en_
      have p106 : 0 ≤ (x3_2 : Int) := of_decide_eq_true (by assumption)
      have q106 : x3_2 < (((af_ l0 0).f1).length : Int) := of_decide_eq_true (by assumption)
      obtain ⟨ad106, e106, hx106_0⟩ := Kd.bL_ HR105_1.out x3_2 p106 q106
      cases e106
      replace p106 := eq_true p106
      replace q106 := eq_true q106
      go_upto_if 35 with (first | ((with_reducible refine av_ (f := 65) rfl ?_); refine bo_ (some 34) rfl rfl Try.func65 (by kernel_rfl) rfl #[.int .i64 (rd ((af_ l0 0).f1) x3_2), .int .i64 0, .int .i64 255] rfl (by first | rfl | (simp only [lma_, lmc_, lmn_]; first | done | rfl)) ?_; (with_reducible refine (spec_l00In.calls (rd ((af_ l0 0).f1) x3_2) 0 255 t107 _ A10.out).mono ?_); rintro e w' ⟨rfl, ⟨nd, rfl⟩⟩; refine ⟨_, rfl, ?_⟩; skip))
      (try simp only [Act.put, lsa_, ls0_, ls1_])
      have H := HC11.out
      clear HC11
      by_cases c12 : t107 = true
      rotate_left
      ·replace c12 := Bool.eq_false_iff.mpr c12
       subst c12
       have H1 : (some false) = some r := by rw [if_neg (show ¬ (false = true) by decide)] at H; exact H
       clear H
       have H := H1
       clear H1
       obtain rfl := Option.some.inj H
       go_wp2
       go_ret
       exact ⟨by first | rfl | (simp; done) | (simp [*]; done), by repeat (first | exact ax_.refl _ | apply ax_.step)⟩
      subst c12
      have H1 : (aB_.l0 k2 l0 (wrap64 (x3_2 + 1))) = some r := by rw [if_pos rfl] at H; exact H
      clear H
      have H := H1
      clear H1
      have H' := Aside0.mk H
      clear H
      go_wp2
      go_roundg k2
      case measure => have := HJ1.out; have := HK2.out; omega
      case rel => exact ⟨(wrap64 (x3_2 + 1)), (by first | rfl | (simp; done) | (simp [*]; done)), H', ⟨by have := HJ1.out; have := HK2.out; omega⟩, by repeat (first | exact ax_.refl _ | apply ax_.step)⟩
   subst c6
   have H1 : (some false) = some r := by rw [if_pos rfl] at H; exact H
   clear H
   have H := H1
   clear H1
   obtain rfl := Option.some.inj H
   go_wp2
   go_ret
   exact ⟨by first | rfl | (simp; done) | (simp [*]; done), by repeat (first | exact ax_.refl _ | apply ax_.step)⟩
def bO_.f (k : Nat) (a0_0 : ByteArray) (l0_1 : List Int) : Option (Bool) := (aB_.f k [(⟨a0_0, l0_1⟩ : S28)]).bind fun t102 => (some t102)
set_option maxHeartbeats 8000000 in
set_option maxRecDepth 100000 in
theorem bO_.calls (k : Nat) (a0_0 : ByteArray) (A0_1 : Option Addr) (c0_1 : Nat) (l0_1 : List Int) (r : Bool) (w : World) (hr0_1 : Kd.C (Kd.int .i64) w A0_1 l0_1.length l0_1) (hc0_1 : l0_1.length ≤ c0_1) (h : bO_.f k a0_0 l0_1 = some r) :
  Calls Try.prog 38 #[.agg #[.string a0_0, .slice A0_1 l0_1.length c0_1]] w fun e w' => e = .returned (.bool r) ∧ Below w.heap.size w w' := by
 have hu28 := Try.underlying28
 have HR0_1 := Aside0.mk hr0_1
 have HC0_1 := Aside0.mk hc0_1
 clear hr0_1 hc0_1
 have HB := Aside0.mk (Below.refl w.heap.size w)
 have H : ((aB_.f k [(⟨a0_0, l0_1⟩ : S28)]).bind fun t102 => (some t102)) = some r := h
 clear h
 replace H := Option.bind_eq_some_iff.mp H
 obtain ⟨t102, A20, H⟩ := H
 (try dsimp only at H)
 have A2 := Aside0.mk A20
 clear A20
 obtain rfl := Option.some.inj H
 go_enter Try.func38, Try.ntmps38
 go_wp2_with (first | ((with_reducible refine bg_ (N := 1) rfl ?_); refine bt_ ?hg (N := 1) ?hd (cs := #[.string a0_0, .slice A0_1 l0_1.length c0_1]) (t := 28) ?hr ?_; (case hd => rfl); (case hg => rfl); (case hr => (go_simp; try rfl)); intro gb101 hg w3 hbox hb; have BK101 := Aside0.mk (hbox); have GW101 := Aside0.mk ((by rw [hg]; exact (aA_ (bz HB.out)) : w.heap.size ≤ gb101)); have GE101 := GW101; replace HB := Aside0.mk (am_ (bz HB.out) hb); clear hb hbox hg) | ((with_reducible refine av_ (f := 50) rfl ?_); refine bo_ (some 3) rfl rfl Try.func50 (by kernel_rfl) rfl #[.pointer (some (Addr.add ⟨gb101, 0, none⟩ 0))] rfl (by first | rfl | (simp only [lma_, lmc_, lmn_]; first | done | rfl)) ?_; (with_reducible refine (aB_.calls k _ [(⟨a0_0, l0_1⟩ : S28)] t102 _ ?side1 A2.out).mono ?_); (case side1 => exact (RPW.C_blk (cs := [.string a0_0, .slice A0_1 l0_1.length c0_1]) (t := 28) (g := gb101) (kz BK101.out) (k28_mk _ (⟨a0_0, l0_1⟩ : S28) (by exact HC0_1.out) (by first | exact (Kd.bi_ HR0_1.out HB.out) | exact cz (Kd.bi_ HR0_1.out HB.out))))); rintro e w' ⟨rfl, ⟨nd, rfl⟩⟩; refine ⟨_, rfl, ?_⟩))
 go_ret
 exact ⟨by first | rfl | (simp [*, aH_, aG_] <;> rfl), bq⟩
def bz_.l0 : Nat → List Int → List Int → Int → Option (Bool)
 | 0, _, _, _ => none
 | k + 1, x0, x1, x5 => if x5 < (x0.length : Int) then (if 0 ≤ x5 then (if x5 < (x1.length : Int) then (if (rd x0 x5) = (rd x1 x5) then (bz_.l0 k x0 x1 (wrap64 (x5 + 1))) else (some false)) else (none)) else (none)) else (some true)
def bz_.f (k : Nat) (l0 : List Int) (l1 : List Int) : Option (Bool) := if (l0.length : Int) = (l1.length : Int) then (bz_.l0 k l0 l1 0) else (some false)
set_option maxHeartbeats 8000000 in
set_option maxRecDepth 100000 in
theorem bz_.calls (k : Nat) (A0 : Option Addr) (c0 : Nat) (l0 : List Int) (A1 : Option Addr) (c1 : Nat) (l1 : List Int) (r : Bool) (w : World) (hr0 : Kd.C (Kd.int .i64) w A0 l0.length l0) (hc0 : l0.length ≤ c0) (hr1 : Kd.C (Kd.int .i64) w A1 l1.length l1) (hc1 : l1.length ≤ c1) (h : bz_.f k l0 l1 = some r) :
  Calls Try.prog 39 #[.slice A0 l0.length c0, .slice A1 l1.length c1] w fun e w' => e = .returned (.bool r) ∧ ax_ w w' := by
 have HR0 := Aside0.mk hr0
 have HC0 := Aside0.mk hc0
 clear hr0 hc0
 have HR1 := Aside0.mk hr1
 have HC1 := Aside0.mk hc1
 clear hr1 hc1
 have H : (if (l0.length : Int) = (l1.length : Int) then (bz_.l0 k l0 l1 0) else (some false)) = some r := h
 clear h
 by_cases c3 : (l0.length : Int) = (l1.length : Int)
 rotate_left
 ·rw [if_neg c3] at H
  have c3b0 : ((l0.length : Int) == (l1.length : Int)) = false := beq_eq_false_iff_ne.mpr c3
  have c3b1 : ((l0.length : Int) != (l1.length : Int)) = true := bne_iff_ne.mpr c3
  have c3b2 : (l0.length == l1.length) = false := by first | simpa using c3 | (simp at c3 ⊢; omega)
  obtain rfl := Option.some.inj H
  go_enter Try.func39, Try.ntmps39
  go_wp2
  repeat (go_quiet (fail); try go_wp2)
  go_ret
  exact ⟨by first | rfl | (simp; done) | (simp [*]; done), by repeat (first | exact ax_.refl _ | apply ax_.step)⟩
 rw [if_pos c3] at H
 have c3b0 : ((l0.length : Int) == (l1.length : Int)) = true := beq_iff_eq.mpr c3
 have c3b1 : ((l0.length : Int) != (l1.length : Int)) = false := bne_eq_false_iff_eq.mpr c3
 have c3b2 : (l0.length == l1.length) = true := by first | simpa using c3 | (simp at c3 ⊢; omega)
 clear c3
 have H' := Aside0.mk H
 clear H
 go_enter Try.func39, Try.ntmps39
 go_wp2
 repeat (go_quiet (fail); try go_wp2)
 (try simp only [Act.put, lsa_, ls0_, ls1_])
 go_loopg [5] k (fun kq v5 w' => ∃ (x5_1 : Int), v5 = .int .i64 x5_1 ∧ Aside0 (bz_.l0 kq l0 l1 x5_1 = some r) ∧ Aside0 (kq ≤ k) ∧ ax_ w w')
 case atStart => exact ⟨(0), (by first | rfl | (simp; done) | (simp [*]; done)), H', ⟨Nat.le_refl _⟩, by repeat (first | exact ax_.refl _ | apply ax_.step)⟩
 case round =>
  clear H'
  obtain ⟨x5_1, rfl, HA, HK1, ⟨m1, rfl⟩⟩ := hrel
  cases gk with
  | zero => exact absurd HA.out (by simp [bz_.l0])
  | succ k1 =>
   have H := HA.out
   clear HA
   simp only [bz_.l0] at H
   by_cases c4 : x5_1 < (l0.length : Int)
   rotate_left
   ·rw [if_neg c4] at H
    have c4b0 : decide (x5_1 < (l0.length : Int)) = false := decide_eq_false c4
    clear c4
    obtain rfl := Option.some.inj H
    go_wp2
    repeat (go_quiet (fail); try go_wp2)
    go_ret
    exact ⟨by first | rfl | (simp; done) | (simp [*]; done), by repeat (first | exact ax_.refl _ | apply ax_.step)⟩
   rw [if_pos c4] at H
   have c4b0 : decide (x5_1 < (l0.length : Int)) = true := decide_eq_true c4
   clear c4
   by_cases c5 : 0 ≤ x5_1
   rotate_left
   ·rw [if_neg c5] at H
    exact absurd H (by simp)
   rw [if_pos c5] at H
   have c5b0 : decide (0 ≤ x5_1) = true := decide_eq_true c5
   clear c5
   by_cases c6 : x5_1 < (l1.length : Int)
   rotate_left
   ·rw [if_neg c6] at H
    exact absurd H (by simp)
   rw [if_pos c6] at H
   have c6b0 : decide (x5_1 < (l1.length : Int)) = true := decide_eq_true c6
   clear c6
   by_cases c7 : (rd l0 x5_1) = (rd l1 x5_1)
   rotate_left
   ·rw [if_neg c7] at H
    have c7b0 : ((rd l0 x5_1) == (rd l1 x5_1)) = false := beq_eq_false_iff_ne.mpr c7
    have c7b1 : ((rd l0 x5_1) != (rd l1 x5_1)) = true := bne_iff_ne.mpr c7
    obtain rfl := Option.some.inj H
    have p101 : 0 ≤ (x5_1 : Int) := of_decide_eq_true (by assumption)
    have q101 : x5_1 < (l0.length : Int) := of_decide_eq_true (by assumption)
    obtain ⟨ad101, e101, hx101_0⟩ := Kd.bL_ HR0.out x5_1 p101 q101
    cases e101
    replace p101 := eq_true p101
    replace q101 := eq_true q101
    have p102 : 0 ≤ (x5_1 : Int) := of_decide_eq_true (by assumption)
    have q102 : x5_1 < (l1.length : Int) := of_decide_eq_true (by assumption)
    obtain ⟨ad102, e102, hx102_0⟩ := Kd.bL_ HR1.out x5_1 p102 q102
    cases e102
    replace p102 := eq_true p102
    replace q102 := eq_true q102
    go_wp2
    repeat (go_quiet (fail); try go_wp2)
    go_ret
    exact ⟨by first | rfl | (simp; done) | (simp [*]; done), by repeat (first | exact ax_.refl _ | apply ax_.step)⟩
   rw [if_pos c7] at H
   have c7b0 : ((rd l0 x5_1) == (rd l1 x5_1)) = true := beq_iff_eq.mpr c7
   have c7b1 : ((rd l0 x5_1) != (rd l1 x5_1)) = false := bne_eq_false_iff_eq.mpr c7
   clear c7
   have H' := Aside0.mk H
   clear H
   have p101 : 0 ≤ (x5_1 : Int) := of_decide_eq_true (by assumption)
   have q101 : x5_1 < (l0.length : Int) := of_decide_eq_true (by assumption)
   obtain ⟨ad101, e101, hx101_0⟩ := Kd.bL_ HR0.out x5_1 p101 q101
   cases e101
   replace p101 := eq_true p101
   replace q101 := eq_true q101
   have p102 : 0 ≤ (x5_1 : Int) := of_decide_eq_true (by assumption)
   have q102 : x5_1 < (l1.length : Int) := of_decide_eq_true (by assumption)
   obtain ⟨ad102, e102, hx102_0⟩ := Kd.bL_ HR1.out x5_1 p102 q102
   cases e102
   replace p102 := eq_true p102
   replace q102 := eq_true q102
   go_wp2
   repeat (go_quiet (fail); try go_wp2)
   go_roundg k1
   case measure => have := HK1.out; omega
   case rel => exact ⟨(wrap64 (x5_1 + 1)), (by first | rfl | (simp; done) | (simp [*]; done)), H', ⟨by have := HK1.out; omega⟩, by repeat (first | exact ax_.refl _ | apply ax_.step)⟩
def an_.l0 : Nat → List (S28) → List (S28) → Int → Int → Option (Bool)
 | 0, _, _, _, _ => none
 | k + 1, x0, x5, x6, x7 => if x7 < x6 then (if 0 ≤ x7 then (if x7 < (x5.length : Int) then ((aE_.f k ((af_ x5 x7).f0) ((af_ x5 x7).f1)).bind fun t103 => (if t103 = true then (if x7 > 0 then (if 0 ≤ (wrap64 (x7 - 1)) then (if (wrap64 (x7 - 1)) < (x0.length : Int) then (if ((Op.bytesLess (((af_ x0 (wrap64 (x7 - 1))).f0).toList) (((af_ x5 x7).f0).toList)) = true) then (an_.l0 k x0 x5 x6 (wrap64 (x7 + 1))) else (some false)) else (none)) else (none)) else (an_.l0 k x0 x5 x6 (wrap64 (x7 + 1)))) else (some false))) else (none)) else (none)) else (some (decide ((x0.length : Int) ≤ 16)))
def an_.f (k : Nat) (l0 : List (S28)) : Option (Bool) := an_.l0 k l0 l0 (l0.length : Int) 0
def an_.T4 : Bool × List (List Nat × List Nat) := (true, [([], []), ([0], [0]), ([1], [1]), ([2, 1], [2]), ([3], [3]), ([4, 3], [3, 4]), ([5, 3, 3], [3, 5]), ([6], [6]), ([6], [6]), ([8, 6], [6, 8]), ([7, 9, 6], [6, 7, 9]), ([10, 6], [6, 10]), ([11, 6], [6, 11]), ([6], [6]), ([13, 6], [6, 13]), ([12, 14, 6], [6, 12, 14]), ([6, 15, 3], [3, 6, 15]), ([3, 16], [3, 16])])
def an_.B4 : List Nat := [0, 1, 3, 7, 15, 31, 63, 127, 127, 383, 1023, 2047, 4095, 127, 8319, 32767, 65535, 131071]
theorem an_.tab4 : rtab .any (opsOf Try.f20 4) = an_.T4 := by kernel_rfl
theorem an_.bits4 : cy_ an_.T4.2 an_.B4 = true := by kernel_rfl
set_option maxHeartbeats 8000000 in
set_option maxRecDepth 100000 in
theorem an_.calls (k : Nat) (A0 : Option Addr) (c0 : Nat) (l0 : List (S28)) (r : Bool) (w : World) (hr0 : Kd.C k28 w A0 l0.length l0) (hc0 : l0.length ≤ c0) (h : an_.f k l0 = some r) :
  Calls Try.prog 20 #[.slice A0 l0.length c0] w fun e w' => e = .returned (.bool r) ∧ Below w.heap.size w w' := by
 have hu28 := Try.underlying28
 have HR0 := Aside0.mk hr0
 have HC0 := Aside0.mk hc0
 clear hr0 hc0
 have HB := Aside0.mk (Below.refl w.heap.size w)
 have H : (an_.l0 k l0 l0 (l0.length : Int) 0) = some r := h
 clear h
 have H' := Aside0.mk H
 clear H
 go_enter Try.func20, Try.ntmps20
 go_wp2
 (try simp only [Act.put, lsa_, ls0_, ls1_])
 go_loopg [7] k (fun kq v7 w' => ∃ (x7_1 : Int), v7 = .int .i64 x7_1 ∧ Aside0 (an_.l0 kq l0 l0 (l0.length : Int) x7_1 = some r) ∧ Aside0 (kq ≤ k) ∧ Aside0 (Below w.heap.size w w'))
 case atStart => exact ⟨(0), (by first | rfl | (simp; done) | (simp [*]; done)), H', ⟨Nat.le_refl _⟩, ⟨bz HB.out⟩⟩
 case round =>
  clear H'
  obtain ⟨x7_1, rfl, HA, HK1, HB⟩ := hrel
  cases gk with
  | zero => exact absurd HA.out (by simp [an_.l0])
  | succ k1 =>
   have H := HA.out
   clear HA
   simp only [an_.l0] at H
   by_cases c2 : x7_1 < (l0.length : Int)
   rotate_left
   ·rw [if_neg c2] at H
    have c2b0 : decide (x7_1 < (l0.length : Int)) = false := decide_eq_false c2
    clear c2
    obtain rfl := Option.some.inj H
    go_wp2
    go_ret
    exact ⟨by first | rfl | (simp [*, aH_, aG_] <;> rfl), bz HB.out⟩
   rw [if_pos c2] at H
   have c2b0 : decide (x7_1 < (l0.length : Int)) = true := decide_eq_true c2
   clear c2
   by_cases c3 : 0 ≤ x7_1
   rotate_left
   ·rw [if_neg c3] at H
    exact absurd H (by simp)
   rw [if_pos c3] at H
   have c3b0 : decide (0 ≤ x7_1) = true := decide_eq_true c3
   clear c3
   by_cases c4 : x7_1 < (l0.length : Int)
   rotate_left
   ·rw [if_neg c4] at H
    exact absurd H (by simp)
   rw [if_pos c4] at H
   have c4b0 : decide (x7_1 < (l0.length : Int)) = true := decide_eq_true c4
   clear c4
   replace H := Option.bind_eq_some_iff.mp H
   obtain ⟨t103, A50, H⟩ := H
   (try dsimp only at H)
   have A5 := Aside0.mk A50
   clear A50
   by_cases c6 : t103 = true
   rotate_left
   ·replace c6 := Bool.eq_false_iff.mpr c6
    subst c6
    have H1 : (some false) = some r := by rw [if_neg (show ¬ (false = true) by decide)] at H; exact H
    clear H
    have H := H1
    clear H1
    obtain rfl := Option.some.inj H
    have p101 : 0 ≤ (x7_1 : Int) := of_decide_eq_true (by assumption)
    have q101 : x7_1 < (l0.length : Int) := of_decide_eq_true (by assumption)
    obtain ⟨ad101, A101_1, c101_1, e101, hx101_0, hx101_1, hl101_1, hi101_1⟩ := bY_ HR0.out x7_1 p101 q101
    cases e101
    replace hx101_0 := bu_ HB.out hx101_0
    replace hx101_1 := bu_ HB.out hx101_1
    have HR101_1 := Aside0.mk hi101_1
    have HC101_1 := Aside0.mk hl101_1
    clear hi101_1 hl101_1
    replace p101 := eq_true p101
    replace q101 := eq_true q101
    try go_wp2_with (first | ((with_reducible refine bg_ (N := 4) rfl ?_); refine bt_ ?hg (N := 4) ?hd (cs := #[.string (⟨#[]⟩ : ByteArray), .slice none 0 0]) (t := 28) ?hr ?_; (case hd => rfl); (case hg => rfl); (case hr => (go_simp; try rfl)); intro gb102 hg w23 hbox hb; have BK102 := Aside0.mk (hbox); have GW102 := Aside0.mk ((by rw [hg]; exact (aA_ (bz HB.out)) : w.heap.size ≤ gb102)); have GE102 := GW102; replace HB := Aside0.mk (am_ (bz HB.out) hb); clear hb hbox hg; obtain ⟨hcz24_0, hcz24_1⟩ := cz2_ BK102.out; obtain ⟨hfz24_0, hfz24_1⟩ := fz2_ BK102.out))
    have n0_ : Aside0 (((w23.setCell ⟨gb102, 0, none⟩ (.string ((af_ l0 x7_1).f0))).setCell ⟨gb102, 1, none⟩ (.slice A101_1 ((af_ l0 x7_1).f1).length c101_1)).heap[gb102]? = some (.cells #[.string ((af_ l0 x7_1).f0), .slice A101_1 ((af_ l0 x7_1).f1).length c101_1] 28 (0, 0))) := ⟨by exact kj2_1 (kj2_0 (kz BK102.out))⟩
    have n1_ : Aside0 (Below w.heap.size w ((w23.setCell ⟨gb102, 0, none⟩ (.string ((af_ l0 x7_1).f0))).setCell ⟨gb102, 1, none⟩ (.slice A101_1 ((af_ l0 x7_1).f1).length c101_1))) := ⟨bq⟩
    (try clear BK102)
    (try clear HB)
    generalize ((w23.setCell ⟨gb102, 0, none⟩ (.string ((af_ l0 x7_1).f0))).setCell ⟨gb102, 1, none⟩ (.slice A101_1 ((af_ l0 x7_1).f1).length c101_1)) = w25 at n0_ n1_ ⊢
    have BK102 := n0_
    have HB := n1_
    clear n0_ n1_
    have n0_ := Aside0.mk (ay_ BK102.out)
    have n1_ := Aside0.mk (bD_ HB.out)
    clear BK102
    clear HB
    have BK102 := n0_
    have HB := n1_
    clear n0_ n1_
    refine cv_ (n := 18) (S := fun w' => w'.cell? ⟨gb102, 0, none⟩ = some (.string ((af_ l0 x7_1).f0)) ∧ w'.cell? ⟨gb102, 1, none⟩ = some (.slice A101_1 ((af_ l0 x7_1).f1).length c101_1)) (ds := []) #[f_,f_,f_,f_,f_,f_,f_,f_,f_,f_,f_,f_,f_,f_,f_,f_,f_,f_] (by kernel_rfl) rfl rfl ⟨(aM_ BK102.out 0).trans rfl, (aM_ BK102.out 1).trans rfl⟩ (fun hHeld => ?_); refine bT_ an_.tab4 an_.bits4 (fun HT_ HW_ => ?_)
    generalize w25.drew = w26 at BK102 HB hHeld ⊢
    refine tk 0 12 #[t_,f_,f_,f_,f_,f_,f_,f_,f_,f_,f_,f_,f_,f_,f_,f_,f_,f_] HT_ HW_ hHeld ?_ (hv := by rintro w' ⟨s0, s1⟩; go_simp; with_reducible rfl)
    refine one_ (i := 1) (N := some 13) #[t_,t_,f_,f_,f_,f_,f_,f_,f_,f_,f_,f_,f_,f_,f_,f_,f_,f_] rfl rfl (cs_ HT_.out (by kernel_rfl)) (by decide) (fun K hK => ?_)
    (first | refine goes_ Try.func52 (by kernel_rfl) rfl #[.agg #[.string ((af_ l0 x7_1).f0), .slice A101_1 ((af_ l0 x7_1).f1).length c101_1]] (by rfl) rfl rfl (by first | rfl | (simp only [lma_, lmc_, lmn_]; first | done | rfl)) ?_ | refine RPW.cC_ Try.func52 (by kernel_rfl) rfl #[.agg #[.string ((af_ l0 x7_1).f0), .slice A101_1 ((af_ l0 x7_1).f1).length c101_1]] (by rfl) rfl rfl rfl (by first | rfl | (simp only [lma_, lmc_, lmn_]; first | done | rfl)) ?_ | refine RPW.cB_ Try.func52 (by kernel_rfl) rfl #[.agg #[.string ((af_ l0 x7_1).f0), .slice A101_1 ((af_ l0 x7_1).f1).length c101_1]] (by rfl) rfl rfl rfl (by first | rfl | (simp only [lma_, lmc_, lmn_]; first | done | rfl)) ?_)
    with_reducible refine (aE_.calls k1 ((af_ l0 x7_1).f0) _ _ ((af_ l0 x7_1).f1) false _ ?side1 ?side2 A5.out).mono ?_
    (case side1 => exact cz (Kd.bi_ HR101_1.out HB.out))
    (case side2 => exact HC101_1.out)
    rintro e w27 ⟨rfl, hb⟩
    refine ⟨_, rfl, ?_⟩
    have n0_ := Aside0.mk (ag_ (kz BK102.out) hb)
    have n1_ := Aside0.mk (am_ (bq) hb)
    clear BK102
    clear HB
    have BK102 := n0_
    have HB := n1_
    clear n0_ n1_
    (try clear hb)
    refine hK.out _ _ ⟨(aM_ BK102.out 0).trans rfl, (aM_ BK102.out 1).trans rfl⟩ (fun hHeld => ?_)
    clear hK K
    refine norm_ (a' := ?_) ?_ ?_
    rotate_left
    ·show Act.put _ (some 13) _ = _
     simp only [Act.put, lsa_, ls0_, ls1_, i64_w, i32_w]
     rfl
    refine pu 2 14 #[t_,t_,t_,f_,f_,f_,f_,f_,f_,f_,f_,f_,f_,f_,f_,f_,f_,f_] HT_ ?_
    refine pu 3 15 #[t_,t_,t_,t_,f_,f_,f_,f_,f_,f_,f_,f_,f_,f_,f_,f_,f_,f_] HT_ ?_
    refine pn 4 16 #[t_,t_,t_,t_,t_,f_,f_,f_,f_,f_,f_,f_,f_,f_,f_,f_,f_,f_] HT_ ?_
    refine pn 5 17 #[t_,t_,t_,t_,t_,t_,f_,f_,f_,f_,f_,f_,f_,f_,f_,f_,f_,f_] HT_ ?_
    refine pn 6 18 #[t_,t_,t_,t_,t_,t_,t_,f_,f_,f_,f_,f_,f_,f_,f_,f_,f_,f_] HT_ ?_
    refine pn 7 19 #[t_,t_,t_,t_,t_,t_,t_,t_,f_,f_,f_,f_,f_,f_,f_,f_,f_,f_] HT_ ?_
    refine pn 8 20 #[t_,t_,t_,t_,t_,t_,t_,t_,t_,f_,f_,f_,f_,f_,f_,f_,f_,f_] HT_ ?_
    refine pn 9 21 #[t_,t_,t_,t_,t_,t_,t_,t_,t_,t_,f_,f_,f_,f_,f_,f_,f_,f_] HT_ ?_
    refine pn 10 22 #[t_,t_,t_,t_,t_,t_,t_,t_,t_,t_,t_,f_,f_,f_,f_,f_,f_,f_] HT_ ?_
    refine pn 11 23 #[t_,t_,t_,t_,t_,t_,t_,t_,t_,t_,t_,t_,f_,f_,f_,f_,f_,f_] HT_ ?_
    refine pn 12 24 #[t_,t_,t_,t_,t_,t_,t_,t_,t_,t_,t_,t_,t_,f_,f_,f_,f_,f_] HT_ ?_
    refine pn 13 25 #[t_,t_,t_,t_,t_,t_,t_,t_,t_,t_,t_,t_,t_,t_,f_,f_,f_,f_] HT_ ?_
    refine pn 14 26 #[t_,t_,t_,t_,t_,t_,t_,t_,t_,t_,t_,t_,t_,t_,t_,f_,f_,f_] HT_ ?_
    refine pn 15 27 #[t_,t_,t_,t_,t_,t_,t_,t_,t_,t_,t_,t_,t_,t_,t_,t_,f_,f_] HT_ ?_
    refine pn 16 28 #[t_,t_,t_,t_,t_,t_,t_,t_,t_,t_,t_,t_,t_,t_,t_,t_,t_,f_] HT_ ?_
    refine pu 17 29 #[t_,t_,t_,t_,t_,t_,t_,t_,t_,t_,t_,t_,t_,t_,t_,t_,t_,t_] HT_ ?_
    refine done_ (cl_ HT_.out (by kernel_rfl)) ?_
    try go_wp2
    go_ret
    exact ⟨by first | rfl | (simp [*, aH_, aG_] <;> rfl), bq⟩
   subst c6
   have H1 : (if x7_1 > 0 then (if 0 ≤ (wrap64 (x7_1 - 1)) then (if (wrap64 (x7_1 - 1)) < (l0.length : Int) then (if ((Op.bytesLess (((af_ l0 (wrap64 (x7_1 - 1))).f0).toList) (((af_ l0 x7_1).f0).toList)) = true) then (an_.l0 k1 l0 l0 (l0.length : Int) (wrap64 (x7_1 + 1))) else (some false)) else (none)) else (none)) else (an_.l0 k1 l0 l0 (l0.length : Int) (wrap64 (x7_1 + 1)))) = some r := by rw [if_pos rfl] at H; exact H
   clear H
   have H := H1
   clear H1
   by_cases c7 : x7_1 > 0
   rotate_left
   ·rw [if_neg c7] at H
    have c7b0 : decide (0 < x7_1) = false := decide_eq_false c7
    clear c7
    have H' := Aside0.mk H
    clear H
    have p101 : 0 ≤ (x7_1 : Int) := of_decide_eq_true (by assumption)
    have q101 : x7_1 < (l0.length : Int) := of_decide_eq_true (by assumption)
    obtain ⟨ad101, A101_1, c101_1, e101, hx101_0, hx101_1, hl101_1, hi101_1⟩ := bY_ HR0.out x7_1 p101 q101
    cases e101
    replace hx101_0 := bu_ HB.out hx101_0
    replace hx101_1 := bu_ HB.out hx101_1
    have HR101_1 := Aside0.mk hi101_1
    have HC101_1 := Aside0.mk hl101_1
    clear hi101_1 hl101_1
    replace p101 := eq_true p101
    replace q101 := eq_true q101
    try go_wp2_with (first | ((with_reducible refine bg_ (N := 4) rfl ?_); refine bt_ ?hg (N := 4) ?hd (cs := #[.string (⟨#[]⟩ : ByteArray), .slice none 0 0]) (t := 28) ?hr ?_; (case hd => rfl); (case hg => rfl); (case hr => (go_simp; try rfl)); intro gb102 hg w18 hbox hb; have BK102 := Aside0.mk (hbox); have GW102 := Aside0.mk ((by rw [hg]; exact (aA_ (bz HB.out)) : w.heap.size ≤ gb102)); have GE102 := GW102; replace HB := Aside0.mk (am_ (bz HB.out) hb); clear hb hbox hg; obtain ⟨hcz19_0, hcz19_1⟩ := cz2_ BK102.out; obtain ⟨hfz19_0, hfz19_1⟩ := fz2_ BK102.out))
    have n0_ : Aside0 (((w18.setCell ⟨gb102, 0, none⟩ (.string ((af_ l0 x7_1).f0))).setCell ⟨gb102, 1, none⟩ (.slice A101_1 ((af_ l0 x7_1).f1).length c101_1)).heap[gb102]? = some (.cells #[.string ((af_ l0 x7_1).f0), .slice A101_1 ((af_ l0 x7_1).f1).length c101_1] 28 (0, 0))) := ⟨by exact kj2_1 (kj2_0 (kz BK102.out))⟩
    have n1_ : Aside0 (Below w.heap.size w ((w18.setCell ⟨gb102, 0, none⟩ (.string ((af_ l0 x7_1).f0))).setCell ⟨gb102, 1, none⟩ (.slice A101_1 ((af_ l0 x7_1).f1).length c101_1))) := ⟨bq⟩
    (try clear BK102)
    (try clear HB)
    generalize ((w18.setCell ⟨gb102, 0, none⟩ (.string ((af_ l0 x7_1).f0))).setCell ⟨gb102, 1, none⟩ (.slice A101_1 ((af_ l0 x7_1).f1).length c101_1)) = w20 at n0_ n1_ ⊢
    have BK102 := n0_
    have HB := n1_
    clear n0_ n1_
    have n0_ := Aside0.mk (ay_ BK102.out)
    have n1_ := Aside0.mk (bD_ HB.out)
    clear BK102
    clear HB
    have BK102 := n0_
    have HB := n1_
    clear n0_ n1_
    refine cv_ (n := 18) (S := fun w' => w'.cell? ⟨gb102, 0, none⟩ = some (.string ((af_ l0 x7_1).f0)) ∧ w'.cell? ⟨gb102, 1, none⟩ = some (.slice A101_1 ((af_ l0 x7_1).f1).length c101_1)) (ds := []) #[f_,f_,f_,f_,f_,f_,f_,f_,f_,f_,f_,f_,f_,f_,f_,f_,f_,f_] (by kernel_rfl) rfl rfl ⟨(aM_ BK102.out 0).trans rfl, (aM_ BK102.out 1).trans rfl⟩ (fun hHeld => ?_); refine bT_ an_.tab4 an_.bits4 (fun HT_ HW_ => ?_)
    generalize w20.drew = w21 at BK102 HB hHeld ⊢
    refine tk 0 12 #[t_,f_,f_,f_,f_,f_,f_,f_,f_,f_,f_,f_,f_,f_,f_,f_,f_,f_] HT_ HW_ hHeld ?_ (hv := by rintro w' ⟨s0, s1⟩; go_simp; with_reducible rfl)
    refine one_ (i := 1) (N := some 13) #[t_,t_,f_,f_,f_,f_,f_,f_,f_,f_,f_,f_,f_,f_,f_,f_,f_,f_] rfl rfl (cs_ HT_.out (by kernel_rfl)) (by decide) (fun K hK => ?_)
    (first | refine goes_ Try.func52 (by kernel_rfl) rfl #[.agg #[.string ((af_ l0 x7_1).f0), .slice A101_1 ((af_ l0 x7_1).f1).length c101_1]] (by rfl) rfl rfl (by first | rfl | (simp only [lma_, lmc_, lmn_]; first | done | rfl)) ?_ | refine RPW.cC_ Try.func52 (by kernel_rfl) rfl #[.agg #[.string ((af_ l0 x7_1).f0), .slice A101_1 ((af_ l0 x7_1).f1).length c101_1]] (by rfl) rfl rfl rfl (by first | rfl | (simp only [lma_, lmc_, lmn_]; first | done | rfl)) ?_ | refine RPW.cB_ Try.func52 (by kernel_rfl) rfl #[.agg #[.string ((af_ l0 x7_1).f0), .slice A101_1 ((af_ l0 x7_1).f1).length c101_1]] (by rfl) rfl rfl rfl (by first | rfl | (simp only [lma_, lmc_, lmn_]; first | done | rfl)) ?_)
    with_reducible refine (aE_.calls k1 ((af_ l0 x7_1).f0) _ _ ((af_ l0 x7_1).f1) true _ ?side1 ?side2 A5.out).mono ?_
    (case side1 => exact cz (Kd.bi_ HR101_1.out HB.out))
    (case side2 => exact HC101_1.out)
    rintro e w22 ⟨rfl, hb⟩
    refine ⟨_, rfl, ?_⟩
    have n0_ := Aside0.mk (ag_ (kz BK102.out) hb)
    have n1_ := Aside0.mk (am_ (bq) hb)
    clear BK102
    clear HB
    have BK102 := n0_
    have HB := n1_
    clear n0_ n1_
    (try clear hb)
    refine hK.out _ _ ⟨(aM_ BK102.out 0).trans rfl, (aM_ BK102.out 1).trans rfl⟩ (fun hHeld => ?_)
    clear hK K
    refine norm_ (a' := ?_) ?_ ?_
    rotate_left
    ·show Act.put _ (some 13) _ = _
     simp only [Act.put, lsa_, ls0_, ls1_, i64_w, i32_w]
     rfl
    refine pu 2 14 #[t_,t_,t_,f_,f_,f_,f_,f_,f_,f_,f_,f_,f_,f_,f_,f_,f_,f_] HT_ ?_
    refine pu 3 15 #[t_,t_,t_,t_,f_,f_,f_,f_,f_,f_,f_,f_,f_,f_,f_,f_,f_,f_] HT_ ?_
    refine pu 4 16 #[t_,t_,t_,t_,t_,f_,f_,f_,f_,f_,f_,f_,f_,f_,f_,f_,f_,f_] HT_ ?_
    refine pu 5 17 #[t_,t_,t_,t_,t_,t_,f_,f_,f_,f_,f_,f_,f_,f_,f_,f_,f_,f_] HT_ ?_
    refine pu 6 18 #[t_,t_,t_,t_,t_,t_,t_,f_,f_,f_,f_,f_,f_,f_,f_,f_,f_,f_] HT_ ?_
    refine pn 7 19 #[t_,t_,t_,t_,t_,t_,t_,t_,f_,f_,f_,f_,f_,f_,f_,f_,f_,f_] HT_ ?_
    refine pn 8 20 #[t_,t_,t_,t_,t_,t_,t_,t_,t_,f_,f_,f_,f_,f_,f_,f_,f_,f_] HT_ ?_
    refine pn 9 21 #[t_,t_,t_,t_,t_,t_,t_,t_,t_,t_,f_,f_,f_,f_,f_,f_,f_,f_] HT_ ?_
    refine pn 10 22 #[t_,t_,t_,t_,t_,t_,t_,t_,t_,t_,t_,f_,f_,f_,f_,f_,f_,f_] HT_ ?_
    refine pn 11 23 #[t_,t_,t_,t_,t_,t_,t_,t_,t_,t_,t_,t_,f_,f_,f_,f_,f_,f_] HT_ ?_
    refine pn 12 24 #[t_,t_,t_,t_,t_,t_,t_,t_,t_,t_,t_,t_,t_,f_,f_,f_,f_,f_] HT_ ?_
    refine pn 13 25 #[t_,t_,t_,t_,t_,t_,t_,t_,t_,t_,t_,t_,t_,t_,f_,f_,f_,f_] HT_ ?_
    refine pn 14 26 #[t_,t_,t_,t_,t_,t_,t_,t_,t_,t_,t_,t_,t_,t_,t_,f_,f_,f_] HT_ ?_
    refine pn 15 27 #[t_,t_,t_,t_,t_,t_,t_,t_,t_,t_,t_,t_,t_,t_,t_,t_,f_,f_] HT_ ?_
    refine pu 16 28 #[t_,t_,t_,t_,t_,t_,t_,t_,t_,t_,t_,t_,t_,t_,t_,t_,t_,f_] HT_ ?_
    refine pu 17 29 #[t_,t_,t_,t_,t_,t_,t_,t_,t_,t_,t_,t_,t_,t_,t_,t_,t_,t_] HT_ ?_
    refine done_ (cl_ HT_.out (by kernel_rfl)) ?_
    try go_wp2
    go_roundg k1
    case measure => have := HK1.out; omega
    case rel => exact ⟨(wrap64 (x7_1 + 1)), (by first | rfl | (simp; done) | (simp [*]; done)), H', ⟨by have := HK1.out; omega⟩, ⟨bq⟩⟩
   rw [if_pos c7] at H
   have c7b0 : decide (0 < x7_1) = true := decide_eq_true c7
   clear c7
   obtain ⟨ji8, hji8⟩ : ∃ j_ : Int, (wrap64 (x7_1 - 1)) = j_ := ⟨_, rfl⟩
   replace H : (if 0 ≤ (ji8) then (if (ji8) < (l0.length : Int) then (if ((Op.bytesLess (((af_ l0 (ji8)).f0).toList) (((af_ l0 x7_1).f0).toList)) = true) then (an_.l0 k1 l0 l0 (l0.length : Int) (wrap64 (x7_1 + 1))) else (some false)) else (none)) else (none)) = some r := by first | (rw [hji8] at H; exact H) | (simp only [hji8] at H ⊢; exact H)
   (try rw [hji8] at A5)
   have hji8w : (IntKind.i64.wrap (x7_1 - 1)) = ji8 := (i64_w _).trans hji8
   by_cases c9 : 0 ≤ (ji8)
   rotate_left
   ·rw [if_neg c9] at H
    exact absurd H (by simp)
   rw [if_pos c9] at H
   have c9b0 : decide (0 ≤ (ji8)) = true := decide_eq_true c9
   clear c9
   by_cases c10 : (ji8) < (l0.length : Int)
   rotate_left
   ·rw [if_neg c10] at H
    exact absurd H (by simp)
   rw [if_pos c10] at H
   have c10b0 : decide ((ji8) < (l0.length : Int)) = true := decide_eq_true c10
   clear c10
   have HC11 := Aside0.mk H
   clear H
   have p101 : 0 ≤ (x7_1 : Int) := of_decide_eq_true (by assumption)
   have q101 : x7_1 < (l0.length : Int) := of_decide_eq_true (by assumption)
   obtain ⟨ad101, A101_1, c101_1, e101, hx101_0, hx101_1, hl101_1, hi101_1⟩ := bY_ HR0.out x7_1 p101 q101
   cases e101
   replace hx101_0 := bu_ HB.out hx101_0
   replace hx101_1 := bu_ HB.out hx101_1
   have HR101_1 := Aside0.mk hi101_1
   have HC101_1 := Aside0.mk hl101_1
   clear hi101_1 hl101_1
   replace p101 := eq_true p101
   replace q101 := eq_true q101
   try go_wp2_with (first | ((with_reducible refine bg_ (N := 4) rfl ?_); refine bt_ ?hg (N := 4) ?hd (cs := #[.string (⟨#[]⟩ : ByteArray), .slice none 0 0]) (t := 28) ?hr ?_; (case hd => rfl); (case hg => rfl); (case hr => (go_simp; try rfl)); intro gb102 hg w12 hbox hb; have BK102 := Aside0.mk (hbox); have GW102 := Aside0.mk ((by rw [hg]; exact (aA_ (bz HB.out)) : w.heap.size ≤ gb102)); have GE102 := GW102; replace HB := Aside0.mk (am_ (bz HB.out) hb); clear hb hbox hg; obtain ⟨hcz13_0, hcz13_1⟩ := cz2_ BK102.out; obtain ⟨hfz13_0, hfz13_1⟩ := fz2_ BK102.out))
   have n0_ : Aside0 (((w12.setCell ⟨gb102, 0, none⟩ (.string ((af_ l0 x7_1).f0))).setCell ⟨gb102, 1, none⟩ (.slice A101_1 ((af_ l0 x7_1).f1).length c101_1)).heap[gb102]? = some (.cells #[.string ((af_ l0 x7_1).f0), .slice A101_1 ((af_ l0 x7_1).f1).length c101_1] 28 (0, 0))) := ⟨by exact kj2_1 (kj2_0 (kz BK102.out))⟩
   have n1_ : Aside0 (Below w.heap.size w ((w12.setCell ⟨gb102, 0, none⟩ (.string ((af_ l0 x7_1).f0))).setCell ⟨gb102, 1, none⟩ (.slice A101_1 ((af_ l0 x7_1).f1).length c101_1))) := ⟨bq⟩
   (try clear BK102)
   (try clear HB)
   generalize ((w12.setCell ⟨gb102, 0, none⟩ (.string ((af_ l0 x7_1).f0))).setCell ⟨gb102, 1, none⟩ (.slice A101_1 ((af_ l0 x7_1).f1).length c101_1)) = w14 at n0_ n1_ ⊢
   have BK102 := n0_
   have HB := n1_
   clear n0_ n1_
   have n0_ := Aside0.mk (ay_ BK102.out)
   have n1_ := Aside0.mk (bD_ HB.out)
   clear BK102
   clear HB
   have BK102 := n0_
   have HB := n1_
   clear n0_ n1_
   have p104 : 0 ≤ ((ji8) : Int) := of_decide_eq_true (by assumption)
   have q104 : (ji8) < (l0.length : Int) := of_decide_eq_true (by assumption)
   obtain ⟨ad104, A104_1, c104_1, e104, hx104_0, hx104_1, hl104_1, hi104_1⟩ := bY_ HR0.out (ji8) p104 q104
   have hw104_1 := hx104_1
   have hw104_0 := hx104_0
   obtain rfl : ad101 = ad104 := (by injection e104)
   replace hx104_0 := bu_ HB.out hx104_0
   replace hx104_1 := bu_ HB.out hx104_1
   have HR104_1 := Aside0.mk hi104_1
   have HC104_1 := Aside0.mk hl104_1
   clear hi104_1 hl104_1
   replace p104 := eq_true p104
   replace q104 := eq_true q104
   refine cv_ (n := 18) (S := fun w' => w'.cell? ⟨gb102, 0, none⟩ = some (.string ((af_ l0 x7_1).f0)) ∧ w'.cell? ⟨gb102, 1, none⟩ = some (.slice A101_1 ((af_ l0 x7_1).f1).length c101_1) ∧ w'.cell? (ad101.add (((ji8)).toNat * 2)) = some (.string ((af_ l0 (ji8)).f0)) ∧ w'.cell? ⟨(ad101.add (((ji8)).toNat * 2)).block, (ad101.add (((ji8)).toNat * 2)).off + 1, none⟩ = some (.slice A104_1 ((af_ l0 (ji8)).f1).length c104_1)) (ds := []) #[f_,f_,f_,f_,f_,f_,f_,f_,f_,f_,f_,f_,f_,f_,f_,f_,f_,f_] (by kernel_rfl) rfl rfl ⟨(aM_ BK102.out 0).trans rfl, (aM_ BK102.out 1).trans rfl, (bv_ HB.out hw104_0), (bv_ HB.out hw104_1)⟩ (fun hHeld => ?_); refine bT_ an_.tab4 an_.bits4 (fun HT_ HW_ => ?_)
   generalize w14.drew = w15 at BK102 HB HR104_1 hx104_0 hx104_1 hHeld ⊢
   refine tk 0 12 #[t_,f_,f_,f_,f_,f_,f_,f_,f_,f_,f_,f_,f_,f_,f_,f_,f_,f_] HT_ HW_ hHeld ?_ (hv := by rintro w' ⟨s0, s1, s2, s3⟩; go_simp; with_reducible rfl)
   refine one_ (i := 1) (N := some 13) #[t_,t_,f_,f_,f_,f_,f_,f_,f_,f_,f_,f_,f_,f_,f_,f_,f_,f_] rfl rfl (cs_ HT_.out (by kernel_rfl)) (by decide) (fun K hK => ?_)
   (first | refine goes_ Try.func52 (by kernel_rfl) rfl #[.agg #[.string ((af_ l0 x7_1).f0), .slice A101_1 ((af_ l0 x7_1).f1).length c101_1]] (by rfl) rfl rfl (by first | rfl | (simp only [lma_, lmc_, lmn_]; first | done | rfl)) ?_ | refine RPW.cC_ Try.func52 (by kernel_rfl) rfl #[.agg #[.string ((af_ l0 x7_1).f0), .slice A101_1 ((af_ l0 x7_1).f1).length c101_1]] (by rfl) rfl rfl rfl (by first | rfl | (simp only [lma_, lmc_, lmn_]; first | done | rfl)) ?_ | refine RPW.cB_ Try.func52 (by kernel_rfl) rfl #[.agg #[.string ((af_ l0 x7_1).f0), .slice A101_1 ((af_ l0 x7_1).f1).length c101_1]] (by rfl) rfl rfl rfl (by first | rfl | (simp only [lma_, lmc_, lmn_]; first | done | rfl)) ?_)
   with_reducible refine (aE_.calls k1 ((af_ l0 x7_1).f0) _ _ ((af_ l0 x7_1).f1) true _ ?side1 ?side2 A5.out).mono ?_
   (case side1 => exact cz (Kd.bi_ HR101_1.out HB.out))
   (case side2 => exact HC101_1.out)
   rintro e w16 ⟨rfl, hb⟩
   refine ⟨_, rfl, ?_⟩
   have n0_ := Aside0.mk (ag_ (kz BK102.out) hb)
   have n1_ := Aside0.mk (am_ (bq) hb)
   clear BK102
   clear HB
   have BK102 := n0_
   have HB := n1_
   clear n0_ n1_
   (try clear hb)
   refine hK.out _ _ ⟨(aM_ BK102.out 0).trans rfl, (aM_ BK102.out 1).trans rfl, (bv_ HB.out hw104_0), (bv_ HB.out hw104_1)⟩ (fun hHeld => ?_)
   clear hK K
   refine norm_ (a' := ?_) ?_ ?_
   rotate_left
   ·show Act.put _ (some 13) _ = _
    simp only [Act.put, lsa_, ls0_, ls1_, i64_w, i32_w]
    rfl
   refine pu 2 14 #[t_,t_,t_,f_,f_,f_,f_,f_,f_,f_,f_,f_,f_,f_,f_,f_,f_,f_] HT_ ?_
   refine pu 3 15 #[t_,t_,t_,t_,f_,f_,f_,f_,f_,f_,f_,f_,f_,f_,f_,f_,f_,f_] HT_ ?_
   refine pu 4 16 #[t_,t_,t_,t_,t_,f_,f_,f_,f_,f_,f_,f_,f_,f_,f_,f_,f_,f_] HT_ ?_
   refine pu 5 17 #[t_,t_,t_,t_,t_,t_,f_,f_,f_,f_,f_,f_,f_,f_,f_,f_,f_,f_] HT_ ?_
   refine pu 6 18 #[t_,t_,t_,t_,t_,t_,t_,f_,f_,f_,f_,f_,f_,f_,f_,f_,f_,f_] HT_ ?_
   refine pu 7 19 #[t_,t_,t_,t_,t_,t_,t_,t_,f_,f_,f_,f_,f_,f_,f_,f_,f_,f_] HT_ ?_
   refine pu 8 20 #[t_,t_,t_,t_,t_,t_,t_,t_,t_,f_,f_,f_,f_,f_,f_,f_,f_,f_] HT_ ?_
   refine pu 9 21 #[t_,t_,t_,t_,t_,t_,t_,t_,t_,t_,f_,f_,f_,f_,f_,f_,f_,f_] HT_ ?_
   refine pu 10 22 #[t_,t_,t_,t_,t_,t_,t_,t_,t_,t_,t_,f_,f_,f_,f_,f_,f_,f_] HT_ ?_
   refine pu 11 23 #[t_,t_,t_,t_,t_,t_,t_,t_,t_,t_,t_,t_,f_,f_,f_,f_,f_,f_] HT_ ?_
   refine pu 13 25 #[t_,t_,t_,t_,t_,t_,t_,t_,t_,t_,t_,t_,f_,t_,f_,f_,f_,f_] HT_ ?_
   refine tk 12 24 #[t_,t_,t_,t_,t_,t_,t_,t_,t_,t_,t_,t_,t_,t_,f_,f_,f_,f_] HT_ HW_ hHeld ?_ (hv := by rintro w' ⟨s0, s1, s2, s3⟩; go_simp; with_reducible rfl)
   refine tk 14 26 #[t_,t_,t_,t_,t_,t_,t_,t_,t_,t_,t_,t_,t_,t_,t_,f_,f_,f_] HT_ HW_ hHeld ?_ (hv := by rintro w' ⟨s0, s1, s2, s3⟩; go_simp; with_reducible rfl)
   refine pu 15 27 #[t_,t_,t_,t_,t_,t_,t_,t_,t_,t_,t_,t_,t_,t_,t_,t_,f_,f_] HT_ ?_
   refine pu 16 28 #[t_,t_,t_,t_,t_,t_,t_,t_,t_,t_,t_,t_,t_,t_,t_,t_,t_,f_] HT_ ?_
   refine pu 17 29 #[t_,t_,t_,t_,t_,t_,t_,t_,t_,t_,t_,t_,t_,t_,t_,t_,t_,t_] HT_ ?_
   refine done_ (cl_ HT_.out (by kernel_rfl)) ?_
   go_upto_if 29 with (fail)
   have H := HC11.out
   clear HC11
   by_cases c17 : ((Op.bytesLess (((af_ l0 (ji8)).f0).toList) (((af_ l0 x7_1).f0).toList)) = true)
   rotate_left
   ·rw [if_neg c17] at H
    have c17b0 : (Op.bytesLess (((af_ l0 (ji8)).f0).toList) (((af_ l0 x7_1).f0).toList)) = false := by simpa using c17
    clear c17
    (first | rw [c17b0] | (simp only [i64_w, i32_w]; rw [c17b0]) | (simp only [c17b1, Bool.not_true, Bool.not_false]) | (simp only [c17b0, Bool.not_true, Bool.not_false]) | skip)
    obtain rfl := Option.some.inj H
    go_wp2
    go_ret
    exact ⟨by first | rfl | (simp [aH_, aG_] <;> rfl) | (simp only [← hji8]; first | rfl | (simp [aH_, aG_] <;> rfl)) | (simp [*, aH_, aG_] <;> rfl), bq⟩
   rw [if_pos c17] at H
   have c17b0 : (Op.bytesLess (((af_ l0 (ji8)).f0).toList) (((af_ l0 x7_1).f0).toList)) = true := c17
   clear c17
   (first | rw [c17b0] | (simp only [i64_w, i32_w]; rw [c17b0]) | (simp only [c17b1, Bool.not_true, Bool.not_false]) | (simp only [c17b0, Bool.not_true, Bool.not_false]) | skip)
   have H' := Aside0.mk H
   clear H
   go_wp2
   go_roundg k1
   case measure => have := HK1.out; omega
   case rel => exact ⟨(wrap64 (x7_1 + 1)), (by first | rfl | (simp; done) | (simp [*]; done)), H', ⟨by have := HK1.out; omega⟩, ⟨bq⟩⟩
def aP_.f (k : Nat) (a0 : Int) (a1 : Int) (l2 : List (List (S28))) (l3 : List (S28)) : Option (Int) := if 0 < (l2.length : Int) then (if 0 ≤ a0 then (if a0 < ((rd_L9 l2 0).length : Int) then (if 0 < (l3.length : Int) then ((aj_.f k ((af_ (rd_L9 l2 0) a0).f0) ((af_ (rd_L9 l2 0) a0).f1) ((af_ l3 0).f0) ((af_ l3 0).f1)).bind fun t104 => (if 0 ≤ a1 then (if a1 < ((rd_L9 l2 0).length : Int) then ((aj_.f k ((af_ (rd_L9 l2 0) a1).f0) ((af_ (rd_L9 l2 0) a1).f1) ((af_ l3 0).f0) ((af_ l3 0).f1)).bind fun t108 => (some (wrap64 (t104 - t108)))) else (none)) else (none))) else (none)) else (none)) else (none)) else (none)
def aP_.T1 : Bool × List (List Nat × List Nat) := (true, [([], []), ([], []), ([0, 1], [0, 1]), ([2], [2]), ([], []), ([3, 4], [3, 4]), ([], []), ([], []), ([6, 7], [6, 7]), ([8], [8]), ([], []), ([9, 10, 5], [9, 10]), ([5, 11], [5, 11]), ([12, 11, 0, 1, 2, 3, 4, 5, 6, 7, 8, 9, 10, 11, 12], [12])])
def aP_.B1 : List Nat := [0, 0, 3, 7, 0, 31, 0, 0, 192, 448, 0, 2047, 4095, 8191]
theorem aP_.tab1 : rtab .any (opsOf Try.f73 1) = aP_.T1 := by kernel_rfl
theorem aP_.bits1 : cy_ aP_.T1.2 aP_.B1 = true := by kernel_rfl
set_option maxHeartbeats 8000000 in
set_option maxRecDepth 100000 in
theorem aP_.calls (k : Nat) (a0 : Int) (a1 : Int) (A2 : Option Addr) (l2 : List (List (S28))) (A3 : Option Addr) (l3 : List (S28)) (r : Int) (w : World) (hr2 : Kd.C (Kd.slice 28 k28) w A2 l2.length l2) (hr3 : Kd.C k28 w A3 l3.length l3) (h : aP_.f k a0 a1 l2 l3 = some r) :
  Calls Try.prog 73 #[.int .i64 a0, .int .i64 a1, .pointer A2, .pointer A3] w fun e w' => e = .returned (.int .i64 r) ∧ Below w.heap.size w w' := by
 have hu28 := Try.underlying28
 have HR2 := Aside0.mk hr2
 clear hr2
 have HR3 := Aside0.mk hr3
 clear hr3
 have HB := Aside0.mk (Below.refl w.heap.size w)
 have H : (if 0 < (l2.length : Int) then (if 0 ≤ a0 then (if a0 < ((rd_L9 l2 0).length : Int) then (if 0 < (l3.length : Int) then ((aj_.f k ((af_ (rd_L9 l2 0) a0).f0) ((af_ (rd_L9 l2 0) a0).f1) ((af_ l3 0).f0) ((af_ l3 0).f1)).bind fun t104 => (if 0 ≤ a1 then (if a1 < ((rd_L9 l2 0).length : Int) then ((aj_.f k ((af_ (rd_L9 l2 0) a1).f0) ((af_ (rd_L9 l2 0) a1).f1) ((af_ l3 0).f0) ((af_ l3 0).f1)).bind fun t108 => (some (wrap64 (t104 - t108)))) else (none)) else (none))) else (none)) else (none)) else (none)) else (none)) = some r := h
 clear h
 by_cases c5 : 0 < (l2.length : Int)
 rotate_left
 ·rw [if_neg c5] at H
  exact absurd H (by simp)
 rw [if_pos c5] at H
 have c5b0 : decide (0 < (l2.length : Int)) = true := decide_eq_true c5
 have c5b1 : decide (0 < l2.length) = true := decide_eq_true (by omega)
 clear c5
 by_cases c6 : 0 ≤ a0
 rotate_left
 ·rw [if_neg c6] at H
  exact absurd H (by simp)
 rw [if_pos c6] at H
 have c6b0 : decide (0 ≤ a0) = true := decide_eq_true c6
 clear c6
 by_cases c7 : a0 < ((rd_L9 l2 0).length : Int)
 rotate_left
 ·rw [if_neg c7] at H
  exact absurd H (by simp)
 rw [if_pos c7] at H
 have c7b0 : decide (a0 < ((rd_L9 l2 0).length : Int)) = true := decide_eq_true c7
 clear c7
 by_cases c8 : 0 < (l3.length : Int)
 rotate_left
 ·rw [if_neg c8] at H
  exact absurd H (by simp)
 rw [if_pos c8] at H
 have c8b0 : decide (0 < (l3.length : Int)) = true := decide_eq_true c8
 have c8b1 : decide (0 < l3.length) = true := decide_eq_true (by omega)
 clear c8
 replace H := Option.bind_eq_some_iff.mp H
 obtain ⟨t104, A90, H⟩ := H
 (try dsimp only at H)
 have A9 := Aside0.mk A90
 clear A90
 by_cases c10 : 0 ≤ a1
 rotate_left
 ·rw [if_neg c10] at H
  exact absurd H (by simp)
 rw [if_pos c10] at H
 have c10b0 : decide (0 ≤ a1) = true := decide_eq_true c10
 clear c10
 by_cases c11 : a1 < ((rd_L9 l2 0).length : Int)
 rotate_left
 ·rw [if_neg c11] at H
  exact absurd H (by simp)
 rw [if_pos c11] at H
 have c11b0 : decide (a1 < ((rd_L9 l2 0).length : Int)) = true := decide_eq_true c11
 clear c11
 replace H := Option.bind_eq_some_iff.mp H
 obtain ⟨t108, A120, H⟩ := H
 (try dsimp only at H)
 have A12 := Aside0.mk A120
 clear A120
 obtain rfl := Option.some.inj H
 go_enter Try.func73, Try.ntmps73
 try go_wp2
 have n0_ := Aside0.mk (bD_ HB.out)
 clear HB
 have HB := n0_
 clear n0_
 have p101 : 0 ≤ (0 : Int) := (by omega)
 have q101 : 0 < (l2.length : Int) := of_decide_eq_true (by assumption)
 obtain ⟨ad101, A101_0, c101_0, e101, hx101_0, hl101_0, hi101_0⟩ := at_L9 HR2.out 0 p101 q101
 have hw101_0 := hx101_0
 (try simp only [Int.toNat_zero, Nat.zero_mul, Addr.add_zero'] at hw101_0)
 cases e101
 have qi101 : (0 < l2.length) = True := eq_true (by omega)
 (try rw [show ((0 : Int)).toNat = 0 from rfl] at hx101_0)
 (try rw [Addr.add_zero'] at hx101_0)
 replace hx101_0 := bu_ HB.out hx101_0
 have HR101_0 := Aside0.mk hi101_0
 have HC101_0 := Aside0.mk hl101_0
 clear hi101_0 hl101_0
 replace p101 := eq_true p101
 replace q101 := eq_true q101
 have p102 : 0 ≤ (a0 : Int) := of_decide_eq_true (by assumption)
 have q102 : a0 < ((rd_L9 l2 0).length : Int) := of_decide_eq_true (by assumption)
 obtain ⟨ad102, A102_1, c102_1, e102, hx102_0, hx102_1, hl102_1, hi102_1⟩ := bY_ HR101_0.out a0 p102 q102
 have hw102_1 := hx102_1
 have hw102_0 := hx102_0
 cases e102
 replace hx102_0 := bu_ HB.out hx102_0
 replace hx102_1 := bu_ HB.out hx102_1
 have HR102_1 := Aside0.mk hi102_1
 have HC102_1 := Aside0.mk hl102_1
 clear hi102_1 hl102_1
 replace p102 := eq_true p102
 replace q102 := eq_true q102
 have p103 : 0 ≤ (0 : Int) := (by omega)
 have q103 : 0 < (l3.length : Int) := of_decide_eq_true (by assumption)
 obtain ⟨ad103, A103_1, c103_1, e103, hx103_0, hx103_1, hl103_1, hi103_1⟩ := bY_ HR3.out 0 p103 q103
 have hw103_1 := hx103_1
 (try simp only [Int.toNat_zero, Nat.zero_mul, Addr.add_zero'] at hw103_1)
 have hw103_0 := hx103_0
 (try simp only [Int.toNat_zero, Nat.zero_mul, Addr.add_zero'] at hw103_0)
 cases e103
 have qi103 : (0 < l3.length) = True := eq_true (by omega)
 (try simp only [Int.toNat_zero, Nat.zero_mul, Addr.add_zero'] at hx103_0 hx103_1)
 replace hx103_0 := bu_ HB.out hx103_0
 replace hx103_1 := bu_ HB.out hx103_1
 have HR103_1 := Aside0.mk hi103_1
 have HC103_1 := Aside0.mk hl103_1
 clear hi103_1 hl103_1
 replace p103 := eq_true p103
 replace q103 := eq_true q103
 have p105 : 0 ≤ (0 : Int) := (by omega)
 have q105 : 0 < (l2.length : Int) := of_decide_eq_true (by assumption)
 obtain ⟨ad105, A105_0, c105_0, e105, hx105_0, hl105_0, hi105_0⟩ := at_L9 HR2.out 0 p105 q105
 have hw105_0 := hx105_0
 (try simp only [Int.toNat_zero, Nat.zero_mul, Addr.add_zero'] at hw105_0)
 obtain rfl : ad101 = ad105 := (by injection e105)
 have qi105 : (0 < l2.length) = True := eq_true (by omega)
 (try rw [show ((0 : Int)).toNat = 0 from rfl] at hx105_0)
 (try rw [Addr.add_zero'] at hx105_0)
 replace hx105_0 := bu_ HB.out hx105_0
 have HR105_0 := Aside0.mk hi105_0
 have HC105_0 := Aside0.mk hl105_0
 clear hi105_0 hl105_0
 replace p105 := eq_true p105
 replace q105 := eq_true q105
 have ea_ := Option.some.inj (hx101_0.symm.trans hx105_0)
 injection ea_ with ea_ en_ ec_
 (try subst ea_)
 (try subst ec_)
 (try clear ea_ ec_)
 clear en_
 have p106 : 0 ≤ (a1 : Int) := of_decide_eq_true (by assumption)
 have q106 : a1 < ((rd_L9 l2 0).length : Int) := of_decide_eq_true (by assumption)
 obtain ⟨ad106, A106_1, c106_1, e106, hx106_0, hx106_1, hl106_1, hi106_1⟩ := bY_ HR105_0.out a1 p106 q106
 have hw106_1 := hx106_1
 have hw106_0 := hx106_0
 obtain rfl : ad102 = ad106 := (by injection e106)
 replace hx106_0 := bu_ HB.out hx106_0
 replace hx106_1 := bu_ HB.out hx106_1
 have HR106_1 := Aside0.mk hi106_1
 have HC106_1 := Aside0.mk hl106_1
 clear hi106_1 hl106_1
 replace p106 := eq_true p106
 replace q106 := eq_true q106
 have p107 : 0 ≤ (0 : Int) := (by omega)
 have q107 : 0 < (l3.length : Int) := of_decide_eq_true (by assumption)
 obtain ⟨ad107, A107_1, c107_1, e107, hx107_0, hx107_1, hl107_1, hi107_1⟩ := bY_ HR3.out 0 p107 q107
 have hw107_1 := hx107_1
 (try simp only [Int.toNat_zero, Nat.zero_mul, Addr.add_zero'] at hw107_1)
 have hw107_0 := hx107_0
 (try simp only [Int.toNat_zero, Nat.zero_mul, Addr.add_zero'] at hw107_0)
 obtain rfl : ad103 = ad107 := (by injection e107)
 have qi107 : (0 < l3.length) = True := eq_true (by omega)
 (try simp only [Int.toNat_zero, Nat.zero_mul, Addr.add_zero'] at hx107_0 hx107_1)
 replace hx107_0 := bu_ HB.out hx107_0
 replace hx107_1 := bu_ HB.out hx107_1
 have HR107_1 := Aside0.mk hi107_1
 have HC107_1 := Aside0.mk hl107_1
 clear hi107_1 hl107_1
 replace p107 := eq_true p107
 replace q107 := eq_true q107
 have ea_ := Option.some.inj (hx103_1.symm.trans hx107_1)
 injection ea_ with ea_ en_ ec_
 (try subst ea_)
 (try subst ec_)
 (try clear ea_ ec_)
 clear en_
 refine cv_ (n := 14) (S := fun w' => w'.cell? ad101 = some (.slice (some ad102) (rd_L9 l2 0).length c101_0) ∧ w'.cell? (ad102.add ((a0).toNat * 2)) = some (.string ((af_ (rd_L9 l2 0) a0).f0)) ∧ w'.cell? ⟨(ad102.add ((a0).toNat * 2)).block, (ad102.add ((a0).toNat * 2)).off + 1, none⟩ = some (.slice A102_1 ((af_ (rd_L9 l2 0) a0).f1).length c102_1) ∧ w'.cell? ad103 = some (.string ((af_ l3 0).f0)) ∧ w'.cell? ⟨ad103.block, ad103.off + 1, none⟩ = some (.slice A103_1 ((af_ l3 0).f1).length c103_1) ∧ w'.cell? ad101 = some (.slice (some ad102) (rd_L9 l2 0).length c101_0) ∧ w'.cell? (ad102.add ((a1).toNat * 2)) = some (.string ((af_ (rd_L9 l2 0) a1).f0)) ∧ w'.cell? ⟨(ad102.add ((a1).toNat * 2)).block, (ad102.add ((a1).toNat * 2)).off + 1, none⟩ = some (.slice A106_1 ((af_ (rd_L9 l2 0) a1).f1).length c106_1) ∧ w'.cell? ad103 = some (.string ((af_ l3 0).f0)) ∧ w'.cell? ⟨ad103.block, ad103.off + 1, none⟩ = some (.slice A103_1 ((af_ l3 0).f1).length c103_1)) (ds := []) #[f_,f_,f_,f_,f_,f_,f_,f_,f_,f_,f_,f_,f_,f_] (by kernel_rfl) rfl rfl ⟨(bv_ HB.out hw101_0), (bv_ HB.out hw102_0), (bv_ HB.out hw102_1), (bv_ HB.out hw103_0), (bv_ HB.out hw103_1), (bv_ HB.out hw105_0), (bv_ HB.out hw106_0), (bv_ HB.out hw106_1), (bv_ HB.out hw107_0), (bv_ HB.out hw107_1)⟩ (fun hHeld => ?_); refine bT_ aP_.tab1 aP_.bits1 (fun HT_ HW_ => ?_)
 generalize w.drew = w13 at HB HR101_0 HR102_1 HR103_1 HR105_0 HR106_1 HR107_1 hx101_0 hx102_0 hx102_1 hx103_0 hx103_1 hx105_0 hx106_0 hx106_1 hx107_0 hx107_1 hHeld ⊢
 refine pu 1 8 #[f_,t_,f_,f_,f_,f_,f_,f_,f_,f_,f_,f_,f_,f_] HT_ ?_
 refine pu 7 14 #[f_,t_,f_,f_,f_,f_,f_,t_,f_,f_,f_,f_,f_,f_] HT_ ?_
 refine tk 0 7 #[t_,t_,f_,f_,f_,f_,f_,t_,f_,f_,f_,f_,f_,f_] HT_ HW_ hHeld ?_ (hv := by rintro w' ⟨s0, s1, s2, s3, s4, s5, s6, s7, s8, s9⟩; go_simp; with_reducible rfl)
 refine pu 2 9 #[t_,t_,t_,f_,f_,f_,f_,t_,f_,f_,f_,f_,f_,f_] HT_ ?_
 refine tk 3 10 #[t_,t_,t_,t_,f_,f_,f_,t_,f_,f_,f_,f_,f_,f_] HT_ HW_ hHeld ?_ (hv := by rintro w' ⟨s0, s1, s2, s3, s4, s5, s6, s7, s8, s9⟩; go_simp; with_reducible rfl)
 refine tk 4 11 #[t_,t_,t_,t_,t_,f_,f_,t_,f_,f_,f_,f_,f_,f_] HT_ HW_ hHeld ?_ (hv := by rintro w' ⟨s0, s1, s2, s3, s4, s5, s6, s7, s8, s9⟩; go_simp; with_reducible rfl)
 refine tk 6 13 #[t_,t_,t_,t_,t_,f_,t_,t_,f_,f_,f_,f_,f_,f_] HT_ HW_ hHeld ?_ (hv := by rintro w' ⟨s0, s1, s2, s3, s4, s5, s6, s7, s8, s9⟩; go_simp; with_reducible rfl)
 refine pu 8 15 #[t_,t_,t_,t_,t_,f_,t_,t_,t_,f_,f_,f_,f_,f_] HT_ ?_
 refine tk 9 16 #[t_,t_,t_,t_,t_,f_,t_,t_,t_,t_,f_,f_,f_,f_] HT_ HW_ hHeld ?_ (hv := by rintro w' ⟨s0, s1, s2, s3, s4, s5, s6, s7, s8, s9⟩; go_simp; with_reducible rfl)
 refine tk 10 17 #[t_,t_,t_,t_,t_,f_,t_,t_,t_,t_,t_,f_,f_,f_] HT_ HW_ hHeld ?_ (hv := by rintro w' ⟨s0, s1, s2, s3, s4, s5, s6, s7, s8, s9⟩; go_simp; with_reducible rfl)
 refine one_ (i := 5) (N := some 12) #[t_,t_,t_,t_,t_,t_,t_,t_,t_,t_,t_,f_,f_,f_] rfl rfl (cs_ HT_.out (by kernel_rfl)) (by decide) (fun K hK => ?_)
 (first | refine goes_ Try.func53 (by kernel_rfl) rfl #[.agg #[.string ((af_ (rd_L9 l2 0) a0).f0), .slice A102_1 ((af_ (rd_L9 l2 0) a0).f1).length c102_1], .agg #[.string ((af_ l3 0).f0), .slice A103_1 ((af_ l3 0).f1).length c103_1]] (by rfl) rfl rfl (by first | rfl | (simp only [lma_, lmc_, lmn_]; first | done | rfl)) ?_ | refine RPW.cC_ Try.func53 (by kernel_rfl) rfl #[.agg #[.string ((af_ (rd_L9 l2 0) a0).f0), .slice A102_1 ((af_ (rd_L9 l2 0) a0).f1).length c102_1], .agg #[.string ((af_ l3 0).f0), .slice A103_1 ((af_ l3 0).f1).length c103_1]] (by rfl) rfl rfl rfl (by first | rfl | (simp only [lma_, lmc_, lmn_]; first | done | rfl)) ?_ | refine RPW.cB_ Try.func53 (by kernel_rfl) rfl #[.agg #[.string ((af_ (rd_L9 l2 0) a0).f0), .slice A102_1 ((af_ (rd_L9 l2 0) a0).f1).length c102_1], .agg #[.string ((af_ l3 0).f0), .slice A103_1 ((af_ l3 0).f1).length c103_1]] (by rfl) rfl rfl rfl (by first | rfl | (simp only [lma_, lmc_, lmn_]; first | done | rfl)) ?_)
 with_reducible refine (aj_.calls k ((af_ (rd_L9 l2 0) a0).f0) _ _ ((af_ (rd_L9 l2 0) a0).f1) ((af_ l3 0).f0) _ _ ((af_ l3 0).f1) t104 _ ?side1 ?side2 ?side3 ?side4 A9.out).mono ?_
 (case side1 => exact cz (Kd.bi_ HR102_1.out HB.out))
 (case side2 => exact HC102_1.out)
 (case side3 => exact cz (Kd.bi_ HR103_1.out HB.out))
 (case side4 => exact HC103_1.out)
 rintro e w14 ⟨rfl, hb⟩
 refine ⟨_, rfl, ?_⟩
 have n0_ := Aside0.mk (am_ (bz HB.out) hb)
 clear HB
 have HB := n0_
 clear n0_
 (try clear hb)
 refine hK.out _ _ ⟨(bv_ HB.out hw101_0), (bv_ HB.out hw102_0), (bv_ HB.out hw102_1), (bv_ HB.out hw103_0), (bv_ HB.out hw103_1), (bv_ HB.out hw105_0), (bv_ HB.out hw106_0), (bv_ HB.out hw106_1), (bv_ HB.out hw107_0), (bv_ HB.out hw107_1)⟩ (fun hHeld => ?_)
 clear hK K
 refine norm_ (a' := ?_) ?_ ?_
 rotate_left
 ·show Act.put _ (some 12) _ = _
  simp only [Act.put, lsa_, ls0_, ls1_, i64_w, i32_w]
  rfl
 refine one_ (i := 11) (N := some 18) #[t_,t_,t_,t_,t_,t_,t_,t_,t_,t_,t_,t_,f_,f_] rfl rfl (cs_ HT_.out (by kernel_rfl)) (by decide) (fun K hK => ?_)
 (first | refine goes_ Try.func53 (by kernel_rfl) rfl #[.agg #[.string ((af_ (rd_L9 l2 0) a1).f0), .slice A106_1 ((af_ (rd_L9 l2 0) a1).f1).length c106_1], .agg #[.string ((af_ l3 0).f0), .slice A103_1 ((af_ l3 0).f1).length c103_1]] (by rfl) rfl rfl (by first | rfl | (simp only [lma_, lmc_, lmn_]; first | done | rfl)) ?_ | refine RPW.cC_ Try.func53 (by kernel_rfl) rfl #[.agg #[.string ((af_ (rd_L9 l2 0) a1).f0), .slice A106_1 ((af_ (rd_L9 l2 0) a1).f1).length c106_1], .agg #[.string ((af_ l3 0).f0), .slice A103_1 ((af_ l3 0).f1).length c103_1]] (by rfl) rfl rfl rfl (by first | rfl | (simp only [lma_, lmc_, lmn_]; first | done | rfl)) ?_ | refine RPW.cB_ Try.func53 (by kernel_rfl) rfl #[.agg #[.string ((af_ (rd_L9 l2 0) a1).f0), .slice A106_1 ((af_ (rd_L9 l2 0) a1).f1).length c106_1], .agg #[.string ((af_ l3 0).f0), .slice A103_1 ((af_ l3 0).f1).length c103_1]] (by rfl) rfl rfl rfl (by first | rfl | (simp only [lma_, lmc_, lmn_]; first | done | rfl)) ?_)
 with_reducible refine (aj_.calls k ((af_ (rd_L9 l2 0) a1).f0) _ _ ((af_ (rd_L9 l2 0) a1).f1) ((af_ l3 0).f0) _ _ ((af_ l3 0).f1) t108 _ ?side1 ?side2 ?side3 ?side4 A12.out).mono ?_
 (case side1 => exact cz (Kd.bi_ HR106_1.out HB.out))
 (case side2 => exact HC106_1.out)
 (case side3 => exact cz (Kd.bi_ HR107_1.out HB.out))
 (case side4 => exact HC107_1.out)
 rintro e w15 ⟨rfl, hb⟩
 refine ⟨_, rfl, ?_⟩
 have n0_ := Aside0.mk (am_ (bz HB.out) hb)
 clear HB
 have HB := n0_
 clear n0_
 (try clear hb)
 refine hK.out _ _ ⟨(bv_ HB.out hw101_0), (bv_ HB.out hw102_0), (bv_ HB.out hw102_1), (bv_ HB.out hw103_0), (bv_ HB.out hw103_1), (bv_ HB.out hw105_0), (bv_ HB.out hw106_0), (bv_ HB.out hw106_1), (bv_ HB.out hw107_0), (bv_ HB.out hw107_1)⟩ (fun hHeld => ?_)
 clear hK K
 refine norm_ (a' := ?_) ?_ ?_
 rotate_left
 ·show Act.put _ (some 18) _ = _
  simp only [Act.put, lsa_, ls0_, ls1_, i64_w, i32_w]
  rfl
 refine pu 12 19 #[t_,t_,t_,t_,t_,t_,t_,t_,t_,t_,t_,t_,t_,f_] HT_ ?_
 refine pu 13 6 #[t_,t_,t_,t_,t_,t_,t_,t_,t_,t_,t_,t_,t_,t_] HT_ ?_
 refine done_ (cl_ HT_.out (by kernel_rfl)) ?_
 try go_wp2
 go_ret
 exact ⟨by first | rfl | (simp [*, aH_, aG_] <;> rfl), bz HB.out⟩
end Go.Proofs.Yteafahnopgmgoaa.Q
