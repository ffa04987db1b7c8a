/- For all drawn features: distances are symmetric and satisfy the inequality of triangles, and the ranked features begin with the nearest one (FnFeatures). Conditions: none beyond the statement. This text holds the functions' walks and the words for them. -/
import Derived.DataReads
import Derived.Carry
import Derived.ChangeShapes
import Derived.KernelRfl
import Derived.Test.YteafahnopgmgoaaKFnFeaturesa
import Derived.Test.YteafahnopgmgoaaKFnFeaturesb
import Derived.Test.YteafahnopgmgoaaKFnFeaturesc
set_option linter.unusedVariables false
set_option linter.unusedSimpArgs false
namespace Go.Proofs.Yteafahnopgmgoaa.Q
open Go.RowKit Go.Proofs.YteafahnopgmgoaaW.PrintWords Go.Proofs.YteafahnopgmgoaaW.PrintLast Go.Proofs.YteafahnopgmgoaaW.PrintMore
attribute [local go_sem] aY_ aW_ br_ bq_ aR_ aQ_ aZ_ aX_
mutual
def ac_.j0 : Nat → List Int → List Int → Bool → Option (Bool)
 | 0, _, _, _ => none
 | k + 1, x0, x1, x31 => if x31 = true then (some true) else ((by_.f k x0).bind fun bt103 => ((bB_.f k x1).bind fun bt113 => ((ar_.f k bt103.1 bt103.2.1 bt103.2.2.1 bt103.2.2.2).bind fun bt121 => ((ar_.f k bt103.2.2.1 bt103.2.2.2 bt103.1 bt103.2.1).bind fun bt123 => (if bt121.2 = bt123.2 then (ac_.j1 k bt113.1 bt121.1 bt121.2 (bt121.1 != bt123.1) bt103.1 bt103.2.1 bt103.2.2.1 bt103.2.2.2 bt113.2.1 bt113.2.2) else (ac_.j1 k bt113.1 bt121.1 bt121.2 true bt103.1 bt103.2.1 bt103.2.2.1 bt103.2.2.2 bt113.2.1 bt113.2.2))))))
def ac_.j1 : Nat → List (S28) → Int → Int → Bool → ByteArray → List Int → ByteArray → List Int → ByteArray → List Int → Option (Bool)
 | 0, _, _, _, _, _, _, _, _, _, _ => none
 | k + 1, x7, x9, x10, x61, x112000, x112001, x113000, x113001, x121000, x121001 => if x61 = true then (some false) else (if x10 = 0 then ((bO_.f k x121000 x121001).bind fun t125 => (ac_.j2 k x7 x9 t125 x112000 x112001 x113000 x113001 x121000 x121001)) else (ac_.j2 k x7 x9 false x112000 x112001 x113000 x113001 x121000 x121001))
def ac_.j2 : Nat → List (S28) → Int → Bool → ByteArray → List Int → ByteArray → List Int → ByteArray → List Int → Option (Bool)
 | 0, _, _, _, _, _, _, _, _, _ => none
 | k + 1, x7, x9, x67, x112000, x112001, x113000, x113001, x121000, x121001 => if x67 = true then ((ar_.f k x112000 x112001 x121000 x121001).bind fun bt126 => ((ar_.f k x121000 x121001 x113000 x113001).bind fun bt128 => (if bt126.2 = 0 then (if bt128.2 = 0 then (if x9 > (wrap64 (bt126.1 + bt128.1)) then (some false) else ((bz_.f k x112001 x113001).bind fun t130 => (if ((x9 == 0) != t130) = true then (some false) else (ac_.j3 k x7 x121000 x121001)))) else (some false)) else (some false)))) else (ac_.j3 k x7 x121000 x121001)
def ac_.j3 : Nat → List (S28) → ByteArray → List Int → Option (Bool)
 | 0, _, _, _ => none
 | k + 1, x7, x121000, x121001 => (al_.f k x7 x121000 x121001).bind fun bt131 => (if bt131.2 = 0 then ((aC_.f k x7 x121000 x121001).bind fun bt135 => (if (bt131.1.length : Int) = (x7.length : Int) then (ac_.j4 k x7 bt131.1 bt135.1 bt135.2.1 ((bt135.2.2 == 0) != (decide ((x7.length : Int) > 0))) x121000 x121001) else (ac_.j4 k x7 bt131.1 bt135.1 bt135.2.1 true x121000 x121001))) else (some ((bt131.1.length : Int) == 0)))
def ac_.j4 : Nat → List (S28) → List Int → Int → Int → Bool → ByteArray → List Int → Option (Bool)
 | 0, _, _, _, _, _, _, _ => none
 | k + 1, x7, x17, x19, x20, x133, x121000, x121001 => if x133 = true then (some false) else (ac_.l0 k x7 x17 x19 x20 0 0 x121000 x121001)
def ac_.l0 : Nat → List (S28) → List Int → Int → Int → Int → Int → ByteArray → List Int → Option (Bool)
 | 0, _, _, _, _, _, _, _, _ => none
 | k + 1, x7, x17, x19, x20, x22, x23, x121000, x121001 => if x23 < (x17.length : Int) then (if 0 ≤ x23 then (if (rd x17 x23) < 0 then (ac_.j6 k x7 x17 x19 x20 x22 x23 true x121000 x121001) else (if (rd x17 x23) ≥ (x7.length : Int) then (ac_.j6 k x7 x17 x19 x20 x22 x23 true x121000 x121001) else (if x23 ≤ (x17.length : Int) then ((bF_.f k (x17.take (x23 : Int).toNat) (rd x17 x23)).bind fun t146 => (ac_.j6 k x7 x17 x19 x20 x22 x23 t146 x121000 x121001)) else (none)))) else (none)) else (some true)
def ac_.j6 : Nat → List (S28) → List Int → Int → Int → Int → Int → Bool → ByteArray → List Int → Option (Bool)
 | 0, _, _, _, _, _, _, _, _, _ => none
 | k + 1, x7, x17, x19, x20, x22, x23, x163, x121000, x121001 => if x163 = true then (some false) else (if 0 ≤ x23 then (if x23 < (x17.length : Int) then (if 0 ≤ (rd x17 x23) then (if (rd x17 x23) < (x7.length : Int) then ((ar_.f k ((af_ x7 (rd x17 x23)).f0) ((af_ x7 (rd x17 x23)).f1) x121000 x121001).bind fun bt149 => (if bt149.2 = 0 then (if bt149.1 < x22 then (some false) else (if x23 = 0 then (if bt149.1 = x20 then (if (rd x17 x23) = x19 then (ac_.l0 k x7 x17 x19 x20 bt149.1 (wrap64 (x23 + 1)) x121000 x121001) else (some false)) else (some false)) else (ac_.l0 k x7 x17 x19 x20 bt149.1 (wrap64 (x23 + 1)) x121000 x121001))) else (some false))) else (none)) else (none)) else (none)) else (none))
end
def ac_.f (k : Nat) (l0 : List Int) (l1 : List Int) : Option (Bool) := (bI_.f l0).bind fun t101 => (if t101 = true then (ac_.j0 k l0 l1 true) else ((bI_.f l1).bind fun t102 => (ac_.j0 k l0 l1 t102)))
def ac_.T24 : Bool × List (List Nat × List Nat) := (true, [([], []), ([], []), ([0, 1], [0, 1]), ([2], [2]), ([3], [3]), ([4], [4]), ([5], [5]), ([5], [5]), ([6, 7, 5], [5, 6, 7]), ([8, 5], [5, 8]), ([5], [5]), ([10, 5], [5, 10]), ([9, 11, 5], [5, 9, 11]), ([5, 12], [5, 12]), ([13, 5], [13]), ([14], [14]), ([14], [14]), ([15, 16, 14], [14, 15, 16]), ([14], [14]), ([14], [14]), ([18, 19, 14], [14, 18, 19]), ([20, 14], [14, 20]), ([17, 21, 14, 14], [14, 17, 21]), ([14, 22], [14, 22])])
def ac_.B24 : List Nat := [0, 0, 3, 7, 15, 31, 63, 63, 255, 511, 63, 1087, 4095, 8191, 16383, 32767, 32767, 131071, 32767, 32767, 819199, 1867775, 4194303, 8388607]
theorem ac_.tab24 : rtab .any (opsOf Try.f8 24) = ac_.T24 := by kernel_rfl
theorem ac_.bits24 : cy_ ac_.T24.2 ac_.B24 = true := by kernel_rfl
def ac_.T26 : Bool × List (List Nat × List Nat) := (true, [([], []), ([], []), ([], []), ([1, 2], [1, 2]), ([3], [3]), ([0, 4], [0, 4]), ([5], [5]), ([], []), ([6, 7], [6, 7]), ([8], [8]), ([9], [9]), ([9], [9]), ([10, 8, 0, 1, 2, 3, 4, 5, 6, 7, 8, 9, 10], [10]), ([11, 12, 0, 1, 2, 3, 4, 5, 6, 7, 8, 9, 10, 11, 12], [11])])
def ac_.B26 : List Nat := [0, 0, 0, 6, 14, 31, 63, 0, 255, 511, 1023, 1023, 2047, 8191]
theorem ac_.tab26 : rtab .any (opsOf Try.f8 26) = ac_.T26 := by kernel_rfl
theorem ac_.bits26 : cy_ ac_.T26.2 ac_.B26 = true := by kernel_rfl
set_option maxHeartbeats 8000000 in
set_option maxRecDepth 100000 in
theorem ac_.calls (k : Nat) (A0 : Option Addr) (c0 : Nat) (l0 : List Int) (A1 : Option Addr) (c1 : Nat) (l1 : List Int) (r : Bool) (w : World) (hr0 : Kd.C (Kd.int .u8) w A0 l0.length l0) (hc0 : l0.length ≤ c0) (hr1 : Kd.C (Kd.int .u8) w A1 l1.length l1) (hc1 : l1.length ≤ c1) (h : ac_.f k l0 l1 = some r) :
  Calls Try.prog 8 #[.slice A0 l0.length c0, .slice A1 l1.length c1] w fun e w' => e = .returned (.bool r) ∧ Below w.heap.size w w' := by
 have hu28 := Try.underlying28
 have HR0 := Aside0.mk hr0
 have HC0 := Aside0.mk hc0
 clear hr0 hc0
 have HR1 := Aside0.mk hr1
 have HC1 := Aside0.mk hc1
 clear hr1 hc1
 have HB := Aside0.mk (Below.refl w.heap.size w)
 have H : ((bI_.f l0).bind fun t101 => (if t101 = true then (ac_.j0 k l0 l1 true) else ((bI_.f l1).bind fun t102 => (ac_.j0 k l0 l1 t102)))) = some r := h
 clear h
 have HC3 := Aside0.mk H
 clear H
 go_enter Try.func8, Try.ntmps8
 go_upto_region 1 with (fail)
 go_cut [31] (fun v31 wc => ∃ (kq : Nat) (x31_2 : Bool), v31 = .bool x31_2 ∧ Aside0 (ac_.j0 kq l0 l1 x31_2 = some r) ∧ Aside0 (kq ≤ k) ∧ Aside0 (Below w.heap.size w wc))
 case first =>
  have H := HC3.out
  clear HC3
  replace H := Option.bind_eq_some_iff.mp H
  obtain ⟨t101, A40, H⟩ := H
  (try dsimp only at H)
  have A4 := Aside0.mk A40
  clear A40
  by_cases c5 : t101 = true
  rotate_left
  ·replace c5 := Bool.eq_false_iff.mpr c5
   subst c5
   have H1 : ((bI_.f l1).bind fun t102 => (ac_.j0 k l0 l1 t102)) = some r := by rw [if_neg (show ¬ (false = true) by decide)] at H; exact H
   clear H
   have H := H1
   clear H1
   replace H := Option.bind_eq_some_iff.mp H
   obtain ⟨t102, A60, H⟩ := H
   (try dsimp only at H)
   have A6 := Aside0.mk A60
   clear A60
   have H' := Aside0.mk H
   clear H
   go_wp2_with (first | ((with_reducible refine av_ (f := 35) rfl ?_); refine bo_ (some 27) rfl rfl Try.func35 (by kernel_rfl) rfl #[.slice A0 l0.length c0] rfl (by first | rfl | (simp only [lma_, lmc_, lmn_]; first | done | rfl)) ?_; (with_reducible refine (bI_.calls _ _ l0 false _ ?side1 ?side2 A4.out).mono ?_); (case side1 => exact cz (Kd.bi_ HR0.out HB.out)); (case side2 => exact HC0.out); rintro e w' ⟨rfl, ⟨nd, rfl⟩⟩; refine ⟨_, rfl, ?_⟩) | (go_at_call 35; (with_reducible refine (bI_.calls _ _ l1 t102 _ ?side1 ?side2 A6.out).mono ?_); (case side1 => exact cz (Kd.bi_ HR1.out HB.out)); (case side2 => exact HC1.out); rintro e w' ⟨rfl, ⟨nd, rfl⟩⟩))
   go_meet
   case rel => exact ⟨_, (t102), (by first | rfl | (simp; done) | (simp [*]; done)), H', ⟨by first | omega | exact Nat.le_refl _⟩, ⟨bz HB.out⟩⟩
  subst c5
  have H1 : (ac_.j0 k l0 l1 true) = some r := by rw [if_pos rfl] at H; exact H
  clear H
  have H := H1
  clear H1
  have H' := Aside0.mk H
  clear H
  go_wp2_with (first | ((with_reducible refine av_ (f := 35) rfl ?_); refine bo_ (some 27) rfl rfl Try.func35 (by kernel_rfl) rfl #[.slice A0 l0.length c0] rfl (by first | rfl | (simp only [lma_, lmc_, lmn_]; first | done | rfl)) ?_; (with_reducible refine (bI_.calls _ _ l0 true _ ?side1 ?side2 A4.out).mono ?_); (case side1 => exact cz (Kd.bi_ HR0.out HB.out)); (case side2 => exact HC0.out); rintro e w' ⟨rfl, ⟨nd, rfl⟩⟩; refine ⟨_, rfl, ?_⟩))
  go_meet
  case rel => exact ⟨_, (true), (by first | rfl | (simp; done) | (simp [*]; done)), H', ⟨by first | omega | exact Nat.le_refl _⟩, ⟨bz HB.out⟩⟩
 case rest => as_aux_lemma =>
  clear HC3
  obtain ⟨kq, x31_2, rfl, HA, HJ2, HB⟩ := hcut
  cases kq with
  | zero => exact absurd HA.out (by simp [ac_.j0])
  | succ kj2 =>
   have H := HA.out
   clear HA
   simp only [ac_.j0] at H
   by_cases c7 : x31_2 = true
   rotate_left
   ·replace c7 := Bool.eq_false_iff.mpr c7
    subst c7
    have H1 : ((by_.f kj2 l0).bind fun bt103 => ((bB_.f kj2 l1).bind fun bt113 => ((ar_.f kj2 bt103.1 bt103.2.1 bt103.2.2.1 bt103.2.2.2).bind fun bt121 => ((ar_.f kj2 bt103.2.2.1 bt103.2.2.2 bt103.1 bt103.2.1).bind fun bt123 => (if bt121.2 = bt123.2 then (ac_.j1 kj2 bt113.1 bt121.1 bt121.2 (bt121.1 != bt123.1) bt103.1 bt103.2.1 bt103.2.2.1 bt103.2.2.2 bt113.2.1 bt113.2.2) else (ac_.j1 kj2 bt113.1 bt121.1 bt121.2 true bt103.1 bt103.2.1 bt103.2.2.1 bt103.2.2.2 bt113.2.1 bt113.2.2)))))) = some r := by rw [if_neg (show ¬ (false = true) by decide)] at H; exact H
    clear H
    have H := H1
    clear H1
    replace H := Option.bind_eq_some_iff.mp H
    obtain ⟨⟨t103, t104, t107, t108⟩, A80, H⟩ := H
    (try dsimp only at H)
    have A8 := Aside0.mk A80
    clear A80
    replace H := Option.bind_eq_some_iff.mp H
    obtain ⟨⟨t113, t116, t117⟩, A90, H⟩ := H
    (try dsimp only at H)
    have A9 := Aside0.mk A90
    clear A90
    replace H := Option.bind_eq_some_iff.mp H
    obtain ⟨⟨t121, t122⟩, A100, H⟩ := H
    (try dsimp only at H)
    have A10 := Aside0.mk A100
    clear A100
    replace H := Option.bind_eq_some_iff.mp H
    obtain ⟨⟨t123, t124⟩, A110, H⟩ := H
    (try dsimp only at H)
    have A11 := Aside0.mk A110
    clear A110
    have HC12 := Aside0.mk H
    clear H
    go_upto_region 7 with (first | ((with_reducible refine av_ (f := 36) rfl ?_); refine bo_ (some 34) rfl rfl Try.func36 (by kernel_rfl) rfl #[.slice A0 l0.length c0] rfl (by first | rfl | (simp only [lma_, lmc_, lmn_]; first | done | rfl)) ?_; (with_reducible refine (by_.calls kj2 _ _ l0 t103 t104 t107 t108 _ ?side1 ?side2 A8.out).mono ?_); (case side1 => exact cz (Kd.bi_ HR0.out HB.out)); (case side2 => exact HC0.out); rintro e w13 ⟨v105, v109, rfl, ho0, ho1, hb⟩; refine ⟨_, rfl, ?_⟩; have HO106 := Aside0.mk (Kd.Q_lower ho0 (aA_ (bz HB.out))); have HO110 := Aside0.mk (Kd.Q_lower ho1 (aA_ (bz HB.out))); replace HB := Aside0.mk (am_ (bz HB.out) hb); (try clear hb); (try clear ho0); (try clear ho1)) | ((with_reducible refine bg_ (N := 5) rfl ?_); (try (refine cz_ (by rfl) ?_; dsimp only)); refine bt_ ?hg (N := 5) ?hd (cs := #[.string (⟨#[]⟩ : ByteArray), .slice none 0 0]) (t := 28) ?hr ?_; (case hd => rfl); (case hg => rfl); (case hr => (go_simp; try rfl)); intro gb111 hg w14 hbox hb; replace HO106 := Aside0.mk (Kd.aU_ (by (with_reducible repeat (first | apply Kd.ap_ | apply Kd.aq_ | apply Kd.as_)); exact HO106.out) hb); replace HO110 := Aside0.mk (Kd.aU_ (by (with_reducible repeat (first | apply Kd.ap_ | apply Kd.aq_ | apply Kd.as_)); exact HO110.out) hb); have BK111 := Aside0.mk (hbox); have GW111 := Aside0.mk ((by rw [hg]; exact (aA_ (bz HB.out)) : w.heap.size ≤ gb111)); have GE111 := GW111; replace HB := Aside0.mk (am_ (bz HB.out) hb); clear hb hbox hg) | ((with_reducible refine bg_ (N := 6) rfl ?_); (try (refine cz_ (by rfl) ?_; dsimp only)); refine bt_ ?hg (N := 6) ?hd (cs := #[.string (⟨#[]⟩ : ByteArray), .slice none 0 0]) (t := 28) ?hr ?_; (case hd => rfl); (case hg => rfl); (case hr => (go_simp; try rfl)); intro gb112 hg w15 hbox hb; replace HO106 := Aside0.mk (Kd.aU_ (by (with_reducible repeat (first | apply Kd.ap_ | apply Kd.aq_ | apply Kd.as_)); exact HO106.out) hb); replace HO110 := Aside0.mk (Kd.aU_ (by (with_reducible repeat (first | apply Kd.ap_ | apply Kd.aq_ | apply Kd.as_)); exact HO110.out) hb); have BK112 := Aside0.mk (hbox); have GW112 := Aside0.mk ((by rw [hg]; exact (aA_ (bq)) : w.heap.size ≤ gb112)); have GE112 := GW112; replace HB := Aside0.mk (am_ (bq) hb); have NB111_112 := Aside0.mk ((by rw [hg]; exact Nat.ne_of_lt (bX_ (kz BK111.out)) : gb111 ≠ gb112)); have NB112_111 := Aside0.mk ((by rw [hg]; exact Nat.ne_of_gt (bX_ (kz BK111.out)) : gb112 ≠ gb111)); replace BK111 := Aside0.mk (ag_ (kz BK111.out) hb); clear hb hbox hg; have hnb16 := NB111_112.out; have hnc16 := NB112_111.out; obtain ⟨hcz17_0, hcz17_1⟩ := cz2_ BK111.out; obtain ⟨hfz17_0, hfz17_1⟩ := fz2_ BK111.out; obtain ⟨Ao18, co18, eo18, _⟩ := Kd.Q_slice HO106.out; subst eo18; obtain ⟨hcz19_0, hcz19_1⟩ := cz2_ BK112.out; obtain ⟨hfz19_0, hfz19_1⟩ := fz2_ BK112.out; obtain ⟨Ao20, co20, eo20, _⟩ := Kd.Q_slice HO110.out; subst eo20) | ((with_reducible refine av_ (f := 37) rfl ?_); refine bo_ (some 39) rfl rfl Try.func37 (by kernel_rfl) rfl #[.slice A1 l1.length c1] rfl (by first | rfl | (simp only [lma_, lmc_, lmn_]; first | done | rfl)) ?_; (with_reducible refine (bB_.calls kj2 _ _ l1 t113 t116 t117 _ ?side1 ?side2 A9.out).mono ?_); (case side1 => exact Kd.bi_ HR1.out (bq)); (case side2 => exact HC1.out); rintro e w21 ⟨v114, v118, rfl, ho0, ho1, hb⟩; refine ⟨_, rfl, ?_⟩; have HO115 := Aside0.mk (Kd.N_lower (Kd.bV_ (ok' := fun k_ => some k_ ≠ (v118 : Value).ownBlock ∧ some k_ ≠ (.slice Ao18 t104.length co18 : Value).ownBlock ∧ some k_ ≠ (.slice Ao20 t108.length co20 : Value).ownBlock ∧ k_ ≠ gb111 ∧ k_ ≠ gb112) ho0 (fun k_ hk_ => ⟨hk_.2, (Kd.fresh' (Kd.Q_lt (by (with_reducible repeat (first | apply Kd.ap_ | apply Kd.aq_ | apply Kd.as_)); exact (Kd.bJ_ (Kd.bJ_ (Kd.Q_far (p := ⟨gb112, 1, none⟩) (Kd.Q_far (p := ⟨gb112, 0, none⟩) (Kd.Q_far (p := ⟨gb111, 1, none⟩) (Kd.Q_far (p := ⟨gb111, 0, none⟩) (Kd.bU_ (Kd.bU_ HO106.out BK111.out (by decide)) BK112.out (by decide)) (fun _ hk => hk.1.2) (.string t103)) (fun _ hk => hk.1.2) (.slice Ao18 t104.length co18)) (fun _ hk => hk.2) (.string t107)) (fun _ hk => hk.2) (.slice Ao20 t108.length co20)) (fun _ h_ => h_.1)) (fun _ h_ => h_.1)))) k_ hk_.1), (Kd.fresh' (Kd.Q_lt (by (with_reducible repeat (first | apply Kd.ap_ | apply Kd.aq_ | apply Kd.as_)); exact (Kd.bJ_ (Kd.bJ_ (Kd.Q_far (p := ⟨gb112, 1, none⟩) (Kd.Q_far (p := ⟨gb112, 0, none⟩) (Kd.Q_far (p := ⟨gb111, 1, none⟩) (Kd.Q_far (p := ⟨gb111, 0, none⟩) (Kd.bU_ (Kd.bU_ HO110.out BK111.out (by decide)) BK112.out (by decide)) (fun _ hk => hk.1.2) (.string t103)) (fun _ hk => hk.1.2) (.slice Ao18 t104.length co18)) (fun _ hk => hk.2) (.string t107)) (fun _ hk => hk.2) (.slice Ao20 t108.length co20)) (fun _ h_ => h_.1)) (fun _ h_ => h_.1)))) k_ hk_.1), (Kd.freshB (g := gb111) (o := .cells #[.string t103, .slice Ao18 t104.length co18] 28 (0, 0)) (by exact kf (kf (kj2_1 (kj2_0 (kz BK111.out))) NB111_112.out) NB111_112.out) k_ hk_.1), (Kd.freshB (g := gb112) (o := .cells #[.string t107, .slice Ao20 t108.length co20] 28 (0, 0)) (by exact kj2_1 (kj2_0 (kf (kf (kz BK112.out) NB112_111.out) NB112_111.out))) k_ hk_.1)⟩)) (aA_ (bq))); have HO119 := Aside0.mk (Kd.Q_lower (Kd.Q_new' (Kd.Q_new' (Kd.bJ_ (ok' := fun k_ => True) ho1 (fun _ hk_ => trivial)) (Kd.Q_lt (by (with_reducible repeat (first | apply Kd.ap_ | apply Kd.aq_ | apply Kd.as_)); exact (Kd.bJ_ (Kd.bJ_ (Kd.Q_far (p := ⟨gb112, 1, none⟩) (Kd.Q_far (p := ⟨gb112, 0, none⟩) (Kd.Q_far (p := ⟨gb111, 1, none⟩) (Kd.Q_far (p := ⟨gb111, 0, none⟩) (Kd.bU_ (Kd.bU_ HO106.out BK111.out (by decide)) BK112.out (by decide)) (fun _ hk => hk.1.2) (.string t103)) (fun _ hk => hk.1.2) (.slice Ao18 t104.length co18)) (fun _ hk => hk.2) (.string t107)) (fun _ hk => hk.2) (.slice Ao20 t108.length co20)) (fun _ h_ => h_.1)) (fun _ h_ => h_.1))))) (Kd.Q_lt (by (with_reducible repeat (first | apply Kd.ap_ | apply Kd.aq_ | apply Kd.as_)); exact (Kd.bJ_ (Kd.bJ_ (Kd.Q_far (p := ⟨gb112, 1, none⟩) (Kd.Q_far (p := ⟨gb112, 0, none⟩) (Kd.Q_far (p := ⟨gb111, 1, none⟩) (Kd.Q_far (p := ⟨gb111, 0, none⟩) (Kd.bU_ (Kd.bU_ HO110.out BK111.out (by decide)) BK112.out (by decide)) (fun _ hk => hk.1.2) (.string t103)) (fun _ hk => hk.1.2) (.slice Ao18 t104.length co18)) (fun _ hk => hk.2) (.string t107)) (fun _ hk => hk.2) (.slice Ao20 t108.length co20)) (fun _ h_ => h_.1)) (fun _ h_ => h_.1))))) (aA_ (bq))); replace HO106 := Aside0.mk (Kd.Q_elder' (by (with_reducible repeat (first | apply Kd.ap_ | apply Kd.aq_ | apply Kd.as_)); exact (Kd.bJ_ (Kd.bJ_ (Kd.Q_far (p := ⟨gb112, 1, none⟩) (Kd.Q_far (p := ⟨gb112, 0, none⟩) (Kd.Q_far (p := ⟨gb111, 1, none⟩) (Kd.Q_far (p := ⟨gb111, 0, none⟩) (Kd.bU_ (Kd.bU_ HO106.out BK111.out (by decide)) BK112.out (by decide)) (fun _ hk => hk.1.2) (.string t103)) (fun _ hk => hk.1.2) (.slice Ao18 t104.length co18)) (fun _ hk => hk.2) (.string t107)) (fun _ hk => hk.2) (.slice Ao20 t108.length co20)) (fun _ h_ => h_.1)) (fun _ h_ => h_.1))) (Kd.Q_base ho1) hb); replace HO110 := Aside0.mk (Kd.Q_elder' (by (with_reducible repeat (first | apply Kd.ap_ | apply Kd.aq_ | apply Kd.as_)); exact (Kd.bJ_ (Kd.bJ_ (Kd.Q_far (p := ⟨gb112, 1, none⟩) (Kd.Q_far (p := ⟨gb112, 0, none⟩) (Kd.Q_far (p := ⟨gb111, 1, none⟩) (Kd.Q_far (p := ⟨gb111, 0, none⟩) (Kd.bU_ (Kd.bU_ HO110.out BK111.out (by decide)) BK112.out (by decide)) (fun _ hk => hk.1.2) (.string t103)) (fun _ hk => hk.1.2) (.slice Ao18 t104.length co18)) (fun _ hk => hk.2) (.string t107)) (fun _ hk => hk.2) (.slice Ao20 t108.length co20)) (fun _ h_ => h_.1)) (fun _ h_ => h_.1))) (Kd.Q_base ho1) hb); replace BK111 := Aside0.mk (ag_ (g := gb111) (o := .cells #[.string t103, .slice Ao18 t104.length co18] 28 (0, 0)) (by exact kf (kf (kj2_1 (kj2_0 (kz BK111.out))) NB111_112.out) NB111_112.out) hb); replace BK112 := Aside0.mk (ag_ (g := gb112) (o := .cells #[.string t107, .slice Ao20 t108.length co20] 28 (0, 0)) (by exact kj2_1 (kj2_0 (kf (kf (kz BK112.out) NB112_111.out) NB112_111.out))) hb); replace HB := Aside0.mk (am_ (bq) hb); (try clear hb); (try clear ho0); (try clear ho1)) | ((with_reducible refine bg_ (N := 8) rfl ?_); (try (refine cz_ (by rfl) ?_; dsimp only)); refine bt_ ?hg (N := 8) ?hd (cs := #[.string (⟨#[]⟩ : ByteArray), .slice none 0 0]) (t := 28) ?hr ?_; (case hd => rfl); (case hg => rfl); (case hr => (go_simp; try rfl)); intro gb120 hg w22 hbox hb; replace HO106 := Aside0.mk (Kd.aU_ (by (with_reducible repeat (first | apply Kd.ap_ | apply Kd.aq_ | apply Kd.as_)); exact HO106.out) hb); replace HO110 := Aside0.mk (Kd.aU_ (by (with_reducible repeat (first | apply Kd.ap_ | apply Kd.aq_ | apply Kd.as_)); exact HO110.out) hb); replace HO115 := Aside0.mk (Kd.cd_ (Kd.N_elderB (nz HO115.out) gb120 (Nat.le_of_eq hg.symm)) hb); replace HO119 := Aside0.mk (Kd.aU_ (by (with_reducible repeat (first | apply Kd.ap_ | apply Kd.aq_ | apply Kd.as_)); exact HO119.out) hb); have BK120 := Aside0.mk (hbox); have GW120 := Aside0.mk ((by rw [hg]; exact (aA_ (bq)) : w.heap.size ≤ gb120)); have GE120 := GW120; replace HB := Aside0.mk (am_ (bq) hb); have NB111_120 := Aside0.mk ((by rw [hg]; exact Nat.ne_of_lt (bX_ (kz BK111.out)) : gb111 ≠ gb120)); have NB120_111 := Aside0.mk ((by rw [hg]; exact Nat.ne_of_gt (bX_ (kz BK111.out)) : gb120 ≠ gb111)); replace BK111 := Aside0.mk (ag_ (kz BK111.out) hb); have NB112_120 := Aside0.mk ((by rw [hg]; exact Nat.ne_of_lt (bX_ (kz BK112.out)) : gb112 ≠ gb120)); have NB120_112 := Aside0.mk ((by rw [hg]; exact Nat.ne_of_gt (bX_ (kz BK112.out)) : gb120 ≠ gb112)); replace BK112 := Aside0.mk (ag_ (kz BK112.out) hb); clear hb hbox hg; have hnb23 := NB120_111.out; have hnc23 := NB111_120.out; have hnb24 := NB120_112.out; have hnc24 := NB112_120.out; obtain ⟨hcz25_0, hcz25_1⟩ := cz2_ BK120.out; obtain ⟨hfz25_0, hfz25_1⟩ := fz2_ BK120.out; obtain ⟨Ao26, co26, eo26, _⟩ := Kd.Q_slice HO119.out; subst eo26; obtain ⟨hcz27_0, hcz27_1⟩ := cz2_ BK111.out; obtain ⟨hfz27_0, hfz27_1⟩ := fz2_ BK111.out; obtain ⟨hcz28_0, hcz28_1⟩ := cz2_ BK112.out; obtain ⟨hfz28_0, hfz28_1⟩ := fz2_ BK112.out) | ((with_reducible refine av_ (f := 15) rfl ?_); refine bo_ (some 45) rfl rfl Try.func15 (by kernel_rfl) rfl #[.agg #[.string t103, .slice Ao18 t104.length co18], .agg #[.string t107, .slice Ao20 t108.length co20]] rfl (by first | rfl | (simp only [lma_, lmc_, lmn_]; first | done | rfl)) ?_; (with_reducible refine (ar_.calls kj2 t103 _ _ t104 t107 _ _ t108 t121 t122 _ ?side1 ?side2 ?side3 ?side4 A10.out).mono ?_); (case side1 => refine (Kd.aN_ (e := 2) (base := w.heap.size) (ok := fun k_ => (some k_ ≠ (.slice Ao20 t108.length co20 : Value).ownBlock ∧ some k_ ≠ (.slice Ao26 t117.length co26 : Value).ownBlock)) (n := t104.length) (c := co18) ?_).2.2; exact (by (with_reducible repeat (first | apply Kd.ap_ | apply Kd.aq_ | apply Kd.as_)); exact (Kd.bJ_ (Kd.Q_far (p := ⟨gb120, 1, none⟩) (Kd.Q_far (p := ⟨gb120, 0, none⟩) (Kd.bU_ HO106.out BK120.out (by decide)) (fun _ hk => hk.2) (.string t116)) (fun _ hk => hk.2) (.slice Ao26 t117.length co26)) (fun _ h_ => h_.1)))); (case side2 => exact (Kd.aN_ HO106.out).2.1); (case side3 => refine (Kd.aN_ (e := 2) (base := w.heap.size) (ok := fun k_ => (some k_ ≠ (.slice Ao18 t104.length co18 : Value).ownBlock ∧ some k_ ≠ (.slice Ao26 t117.length co26 : Value).ownBlock)) (n := t108.length) (c := co20) ?_).2.2; exact (by (with_reducible repeat (first | apply Kd.ap_ | apply Kd.aq_ | apply Kd.as_)); exact (Kd.bJ_ (Kd.Q_far (p := ⟨gb120, 1, none⟩) (Kd.Q_far (p := ⟨gb120, 0, none⟩) (Kd.bU_ HO110.out BK120.out (by decide)) (fun _ hk => hk.2) (.string t116)) (fun _ hk => hk.2) (.slice Ao26 t117.length co26)) (fun _ h_ => h_.1)))); (case side4 => exact (Kd.aN_ HO110.out).2.1); rintro e w29 ⟨rfl, hb⟩; refine ⟨_, rfl, ?_⟩; replace HO106 := Aside0.mk (Kd.aU_ (by (with_reducible repeat (first | apply Kd.ap_ | apply Kd.aq_ | apply Kd.as_)); exact (Kd.bJ_ (Kd.Q_far (p := ⟨gb120, 1, none⟩) (Kd.Q_far (p := ⟨gb120, 0, none⟩) (Kd.bU_ HO106.out BK120.out (by decide)) (fun _ hk => hk.2) (.string t116)) (fun _ hk => hk.2) (.slice Ao26 t117.length co26)) (fun _ h_ => h_.1))) hb); replace HO110 := Aside0.mk (Kd.aU_ (by (with_reducible repeat (first | apply Kd.ap_ | apply Kd.aq_ | apply Kd.as_)); exact (Kd.bJ_ (Kd.Q_far (p := ⟨gb120, 1, none⟩) (Kd.Q_far (p := ⟨gb120, 0, none⟩) (Kd.bU_ HO110.out BK120.out (by decide)) (fun _ hk => hk.2) (.string t116)) (fun _ hk => hk.2) (.slice Ao26 t117.length co26)) (fun _ h_ => h_.1))) hb); replace HO115 := Aside0.mk (Kd.cd_ (nz (Kd.bV_ (Kd.N_far (p := ⟨gb120, 1, none⟩) (Kd.N_far (p := ⟨gb120, 0, none⟩) (Kd.bV_ HO115.out (fun k_ hk => (⟨hk, hk.2⟩ : _ ∧ k_ ≠ gb120))) (fun _ hk => hk.2) (.string t116)) (fun _ hk => hk.2) (.slice Ao26 t117.length co26)) (fun _ h_ => h_.1))) hb); replace HO119 := Aside0.mk (Kd.aU_ (by (with_reducible repeat (first | apply Kd.ap_ | apply Kd.aq_ | apply Kd.as_)); exact (Kd.bJ_ (Kd.Q_far (p := ⟨gb120, 1, none⟩) (Kd.Q_far (p := ⟨gb120, 0, none⟩) (Kd.bU_ HO119.out BK120.out (by decide)) (fun _ hk => hk.2) (.string t116)) (fun _ hk => hk.2) (.slice Ao26 t117.length co26)) (fun _ h_ => h_.1))) hb); replace BK111 := Aside0.mk (ag_ (g := gb111) (o := .cells #[.string t103, .slice Ao18 t104.length co18] 28 (0, 0)) (by exact kf (kf (kz BK111.out) NB111_120.out) NB111_120.out) hb); replace BK112 := Aside0.mk (ag_ (g := gb112) (o := .cells #[.string t107, .slice Ao20 t108.length co20] 28 (0, 0)) (by exact kf (kf (kz BK112.out) NB112_120.out) NB112_120.out) hb); replace BK120 := Aside0.mk (ag_ (g := gb120) (o := .cells #[.string t116, .slice Ao26 t117.length co26] 28 (0, 0)) (by exact kj2_1 (kj2_0 (kz BK120.out))) hb); replace HB := Aside0.mk (am_ (bq) hb); (try clear hb); obtain ⟨hcz30_0, hcz30_1⟩ := cz2_ BK112.out; obtain ⟨hfz30_0, hfz30_1⟩ := fz2_ BK112.out; obtain ⟨hcz31_0, hcz31_1⟩ := cz2_ BK111.out; obtain ⟨hfz31_0, hfz31_1⟩ := fz2_ BK111.out) | ((with_reducible refine av_ (f := 15) rfl ?_); refine bo_ (some 51) rfl rfl Try.func15 (by kernel_rfl) rfl #[.agg #[.string t107, .slice Ao20 t108.length co20], .agg #[.string t103, .slice Ao18 t104.length co18]] rfl (by first | rfl | (simp only [lma_, lmc_, lmn_]; first | done | rfl)) ?_; (with_reducible refine (ar_.calls kj2 t107 _ _ t108 t103 _ _ t104 t123 t124 _ ?side1 ?side2 ?side3 ?side4 A11.out).mono ?_); (case side1 => exact cz (Kd.aN_ HO110.out).2.2); (case side2 => exact (Kd.aN_ HO110.out).2.1); (case side3 => exact cz (Kd.aN_ HO106.out).2.2); (case side4 => exact (Kd.aN_ HO106.out).2.1); rintro e w32 ⟨rfl, hb⟩; refine ⟨_, rfl, ?_⟩; replace HO106 := Aside0.mk (Kd.aU_ (by (with_reducible repeat (first | apply Kd.ap_ | apply Kd.aq_ | apply Kd.as_)); exact HO106.out) hb); replace HO110 := Aside0.mk (Kd.aU_ (by (with_reducible repeat (first | apply Kd.ap_ | apply Kd.aq_ | apply Kd.as_)); exact HO110.out) hb); replace HO115 := Aside0.mk (Kd.cd_ (nz HO115.out) hb); replace HO119 := Aside0.mk (Kd.aU_ (by (with_reducible repeat (first | apply Kd.ap_ | apply Kd.aq_ | apply Kd.as_)); exact HO119.out) hb); replace BK111 := Aside0.mk (ag_ (kz BK111.out) hb); replace BK112 := Aside0.mk (ag_ (kz BK112.out) hb); replace BK120 := Aside0.mk (ag_ (kz BK120.out) hb); replace HB := Aside0.mk (am_ (bq) hb); (try clear hb)))
    (try simp only [Act.put, lsa_, ls0_, ls1_])
    go_cut [61] (fun v61 wc => ∃ (kq : Nat) (x61_11 : Bool), v61 = .bool x61_11 ∧ Aside0 (ac_.j1 kq t113 t121 t122 x61_11 t103 t104 t107 t108 t116 t117 = some r) ∧ Aside0 (kq ≤ kj2) ∧ Aside0 (Kd.N k28 28 wc w.heap.size (fun k_ => some k_ ≠ ((.slice Ao18 t104.length co18) : Value).ownBlock ∧ some k_ ≠ ((.slice Ao20 t108.length co20) : Value).ownBlock ∧ some k_ ≠ ((.slice Ao26 t117.length co26) : Value).ownBlock ∧ k_ ≠ gb111 ∧ k_ ≠ gb112 ∧ k_ ≠ gb120) v114 t113) ∧ Aside0 (Kd.Q (Kd.int .i64) 2 wc w.heap.size (fun k_ => some k_ ≠ ((.slice Ao20 t108.length co20) : Value).ownBlock ∧ some k_ ≠ ((.slice Ao26 t117.length co26) : Value).ownBlock) (.slice Ao18 t104.length co18) t104) ∧ Aside0 (Kd.Q (Kd.int .i64) 2 wc w.heap.size (fun k_ => some k_ ≠ ((.slice Ao18 t104.length co18) : Value).ownBlock ∧ some k_ ≠ ((.slice Ao26 t117.length co26) : Value).ownBlock) (.slice Ao20 t108.length co20) t108) ∧ Aside0 (Kd.Q (Kd.int .i64) 2 wc w.heap.size (fun k_ => some k_ ≠ ((.slice Ao18 t104.length co18) : Value).ownBlock ∧ some k_ ≠ ((.slice Ao20 t108.length co20) : Value).ownBlock) (.slice Ao26 t117.length co26) t117) ∧ Aside0 (wc.heap[gb111]? = some (.cells #[.string t103, (.slice Ao18 t104.length co18)] 28 (0, 0))) ∧ Aside0 (wc.heap[gb112]? = some (.cells #[.string t107, (.slice Ao20 t108.length co20)] 28 (0, 0))) ∧ Aside0 (wc.heap[gb120]? = some (.cells #[.string t116, (.slice Ao26 t117.length co26)] 28 (0, 0))) ∧ Aside0 (Below w.heap.size w wc))
    case first =>
     have H := HC12.out
     clear HC12
     by_cases c33 : t122 = t124
     rotate_left
     ·rw [if_neg c33] at H
      have c33b0 : (t122 == t124) = false := beq_eq_false_iff_ne.mpr c33
      have c33b1 : (t122 != t124) = true := bne_iff_ne.mpr c33
      (first | rw [c33b0] | (simp only [i64_w, i32_w]; rw [c33b0]) | (simp only [c33b1, Bool.not_true, Bool.not_false]) | (simp only [c33b0, Bool.not_true, Bool.not_false]) | skip)
      have H' := Aside0.mk H
      clear H
      go_wp2
      go_meet
      case rel => exact ⟨_, (true), (by first | rfl | (simp; done) | (simp [*]; done)), H', ⟨by have := HJ2.out; first | omega | exact Nat.le_refl _⟩, ⟨nz (Kd.bV_ HO115.out (fun _ hk => ⟨hk.1.2.1, ⟨hk.1.2.2.1, ⟨hk.1.1, ⟨hk.1.2.2.2.1, ⟨hk.1.2.2.2.2, hk.2⟩⟩⟩⟩⟩))⟩, ⟨by (with_reducible repeat (first | apply Kd.ap_ | apply Kd.aq_ | apply Kd.as_)); exact HO106.out⟩, ⟨by (with_reducible repeat (first | apply Kd.ap_ | apply Kd.aq_ | apply Kd.as_)); exact HO110.out⟩, ⟨by (with_reducible repeat (first | apply Kd.ap_ | apply Kd.aq_ | apply Kd.as_)); exact Kd.bJ_ HO119.out (fun _ hk => ⟨hk.1.2, hk.2⟩)⟩, ⟨by (with_reducible repeat (first | refine aK_ ?_ _ | refine ay_ ?_ | refine aI_ ?_ _)); exact BK111.out⟩, ⟨by (with_reducible repeat (first | refine aK_ ?_ _ | refine ay_ ?_ | refine aI_ ?_ _)); exact BK112.out⟩, ⟨by (with_reducible repeat (first | refine aK_ ?_ _ | refine ay_ ?_ | refine aI_ ?_ _)); exact BK120.out⟩, ⟨bq⟩⟩
     rw [if_pos c33] at H
     have c33b0 : (t122 == t124) = true := beq_iff_eq.mpr c33
     have c33b1 : (t122 != t124) = false := bne_eq_false_iff_eq.mpr c33
     clear c33
     (first | rw [c33b0] | (simp only [i64_w, i32_w]; rw [c33b0]) | (simp only [c33b1, Bool.not_true, Bool.not_false]) | (simp only [c33b0, Bool.not_true, Bool.not_false]) | skip)
     have H' := Aside0.mk H
     clear H
     go_wp2
     go_meet
     case rel => exact ⟨_, ((t121 != t123)), (by first | rfl | (simp; done) | (simp [*]; done)), H', ⟨by have := HJ2.out; first | omega | exact Nat.le_refl _⟩, ⟨nz (Kd.bV_ HO115.out (fun _ hk => ⟨hk.1.2.1, ⟨hk.1.2.2.1, ⟨hk.1.1, ⟨hk.1.2.2.2.1, ⟨hk.1.2.2.2.2, hk.2⟩⟩⟩⟩⟩))⟩, ⟨by (with_reducible repeat (first | apply Kd.ap_ | apply Kd.aq_ | apply Kd.as_)); exact HO106.out⟩, ⟨by (with_reducible repeat (first | apply Kd.ap_ | apply Kd.aq_ | apply Kd.as_)); exact HO110.out⟩, ⟨by (with_reducible repeat (first | apply Kd.ap_ | apply Kd.aq_ | apply Kd.as_)); exact Kd.bJ_ HO119.out (fun _ hk => ⟨hk.1.2, hk.2⟩)⟩, ⟨by (with_reducible repeat (first | refine aK_ ?_ _ | refine ay_ ?_ | refine aI_ ?_ _)); exact BK111.out⟩, ⟨by (with_reducible repeat (first | refine aK_ ?_ _ | refine ay_ ?_ | refine aI_ ?_ _)); exact BK112.out⟩, ⟨by (with_reducible repeat (first | refine aK_ ?_ _ | refine ay_ ?_ | refine aI_ ?_ _)); exact BK120.out⟩, ⟨bq⟩⟩
    case rest => as_aux_lemma =>
     clear HC12
     obtain ⟨kq, x61_11, rfl, HA, HJ11, HO_7, HO_112001, HO_113001, HO_121001, BK111, BK112, BK120, HB⟩ := hcut
     cases kq with
     | zero => exact absurd HA.out (by simp [ac_.j1])
     | succ kj11 =>
      have H := HA.out
      clear HA
      simp only [ac_.j1] at H
      by_cases c34 : x61_11 = true
      rotate_left
      ·replace c34 := Bool.eq_false_iff.mpr c34
       subst c34
       have H1 : (if t122 = 0 then ((bO_.f kj11 t116 t117).bind fun t125 => (ac_.j2 kj11 t113 t121 t125 t103 t104 t107 t108 t116 t117)) else (ac_.j2 kj11 t113 t121 false t103 t104 t107 t108 t116 t117)) = some r := by rw [if_neg (show ¬ (false = true) by decide)] at H; exact H
       clear H
       have H := H1
       clear H1
       have HC35 := Aside0.mk H
       clear H
       go_upto_region 9 with (fail)
       go_cut [67] (fun v67 wc => ∃ (kq : Nat) (x67_34 : Bool), v67 = .bool x67_34 ∧ Aside0 (ac_.j2 kq t113 t121 x67_34 t103 t104 t107 t108 t116 t117 = some r) ∧ Aside0 (kq ≤ kj11) ∧ Aside0 (Kd.N k28 28 wc w.heap.size (fun k_ => some k_ ≠ ((.slice Ao18 t104.length co18) : Value).ownBlock ∧ some k_ ≠ ((.slice Ao20 t108.length co20) : Value).ownBlock ∧ some k_ ≠ ((.slice Ao26 t117.length co26) : Value).ownBlock ∧ k_ ≠ gb111 ∧ k_ ≠ gb112 ∧ k_ ≠ gb120) v114 t113) ∧ Aside0 (Kd.Q (Kd.int .i64) 2 wc w.heap.size (fun k_ => some k_ ≠ ((.slice Ao20 t108.length co20) : Value).ownBlock ∧ some k_ ≠ ((.slice Ao26 t117.length co26) : Value).ownBlock) (.slice Ao18 t104.length co18) t104) ∧ Aside0 (Kd.Q (Kd.int .i64) 2 wc w.heap.size (fun k_ => some k_ ≠ ((.slice Ao18 t104.length co18) : Value).ownBlock ∧ some k_ ≠ ((.slice Ao26 t117.length co26) : Value).ownBlock) (.slice Ao20 t108.length co20) t108) ∧ Aside0 (Kd.Q (Kd.int .i64) 2 wc w.heap.size (fun k_ => some k_ ≠ ((.slice Ao18 t104.length co18) : Value).ownBlock ∧ some k_ ≠ ((.slice Ao20 t108.length co20) : Value).ownBlock) (.slice Ao26 t117.length co26) t117) ∧ Aside0 (wc.heap[gb111]? = some (.cells #[.string t103, (.slice Ao18 t104.length co18)] 28 (0, 0))) ∧ Aside0 (wc.heap[gb112]? = some (.cells #[.string t107, (.slice Ao20 t108.length co20)] 28 (0, 0))) ∧ Aside0 (wc.heap[gb120]? = some (.cells #[.string t116, (.slice Ao26 t117.length co26)] 28 (0, 0))) ∧ Aside0 (Below w.heap.size w wc))
       case first =>
        have H := HC35.out
        clear HC35
        by_cases c36 : t122 = 0
        rotate_left
        ·rw [if_neg c36] at H
         have c36b0 : (t122 == 0) = false := beq_eq_false_iff_ne.mpr c36
         have c36b1 : (t122 != 0) = true := bne_iff_ne.mpr c36
         (first | rw [c36b0] | (simp only [i64_w, i32_w]; rw [c36b0]) | (simp only [c36b1, Bool.not_true, Bool.not_false]) | (simp only [c36b0, Bool.not_true, Bool.not_false]) | skip)
         have H' := Aside0.mk H
         clear H
         go_wp2
         go_meet
         case rel => exact ⟨_, (false), (by first | rfl | (simp; done) | (simp [*]; done)), H', ⟨by have := HJ2.out; have := HJ11.out; first | omega | exact Nat.le_refl _⟩, ⟨nz HO_7.out⟩, ⟨by (with_reducible repeat (first | apply Kd.ap_ | apply Kd.aq_ | apply Kd.as_)); exact HO_112001.out⟩, ⟨by (with_reducible repeat (first | apply Kd.ap_ | apply Kd.aq_ | apply Kd.as_)); exact HO_113001.out⟩, ⟨by (with_reducible repeat (first | apply Kd.ap_ | apply Kd.aq_ | apply Kd.as_)); exact HO_121001.out⟩, ⟨by (with_reducible repeat (first | refine aK_ ?_ _ | refine ay_ ?_ | refine aI_ ?_ _)); exact BK111.out⟩, ⟨by (with_reducible repeat (first | refine aK_ ?_ _ | refine ay_ ?_ | refine aI_ ?_ _)); exact BK112.out⟩, ⟨by (with_reducible repeat (first | refine aK_ ?_ _ | refine ay_ ?_ | refine aI_ ?_ _)); exact BK120.out⟩, ⟨bq⟩⟩
        rw [if_pos c36] at H
        have c36b0 : (t122 == 0) = true := beq_iff_eq.mpr c36
        have c36b1 : (t122 != 0) = false := bne_eq_false_iff_eq.mpr c36
        clear c36
        (first | rw [c36b0] | (simp only [i64_w, i32_w]; rw [c36b0]) | (simp only [c36b1, Bool.not_true, Bool.not_false]) | (simp only [c36b0, Bool.not_true, Bool.not_false]) | skip)
        replace H := Option.bind_eq_some_iff.mp H
        obtain ⟨t125, A370, H⟩ := H
        (try dsimp only at H)
        have A37 := Aside0.mk A370
        clear A370
        have H' := Aside0.mk H
        clear H
        have hnb38 := NB120_111.out
        have hnc38 := NB111_120.out
        have hnb39 := NB120_112.out
        have hnc39 := NB112_120.out
        obtain ⟨hcz40_0, hcz40_1⟩ := cz2_ BK120.out
        obtain ⟨hfz40_0, hfz40_1⟩ := fz2_ BK120.out
        go_wp2_with (first | (go_at_call 38; (with_reducible refine (bO_.calls kj11 t116 _ _ t117 t125 _ ?side1 ?side2 A37.out).mono ?_); (case side1 => exact cz (Kd.aN_ HO_121001.out).2.2); (case side2 => exact (Kd.aN_ HO_121001.out).2.1); rintro e w41 ⟨rfl, hb⟩; replace HO_7 := Aside0.mk (Kd.cd_ (nz HO_7.out) hb); replace HO_112001 := Aside0.mk (Kd.aU_ (by (with_reducible repeat (first | apply Kd.ap_ | apply Kd.aq_ | apply Kd.as_)); exact HO_112001.out) hb); replace HO_113001 := Aside0.mk (Kd.aU_ (by (with_reducible repeat (first | apply Kd.ap_ | apply Kd.aq_ | apply Kd.as_)); exact HO_113001.out) hb); replace HO_121001 := Aside0.mk (Kd.aU_ (by (with_reducible repeat (first | apply Kd.ap_ | apply Kd.aq_ | apply Kd.as_)); exact HO_121001.out) hb); replace BK111 := Aside0.mk (ag_ (kz BK111.out) hb); replace BK112 := Aside0.mk (ag_ (kz BK112.out) hb); replace BK120 := Aside0.mk (ag_ (kz BK120.out) hb); replace HB := Aside0.mk (am_ (bq) hb); (try clear hb)))
        go_meet
        case rel => exact ⟨_, (t125), (by first | rfl | (simp; done) | (simp [*]; done)), H', ⟨by have := HJ2.out; have := HJ11.out; first | omega | exact Nat.le_refl _⟩, ⟨nz HO_7.out⟩, ⟨by (with_reducible repeat (first | apply Kd.ap_ | apply Kd.aq_ | apply Kd.as_)); exact HO_112001.out⟩, ⟨by (with_reducible repeat (first | apply Kd.ap_ | apply Kd.aq_ | apply Kd.as_)); exact HO_113001.out⟩, ⟨by (with_reducible repeat (first | apply Kd.ap_ | apply Kd.aq_ | apply Kd.as_)); exact HO_121001.out⟩, ⟨by (with_reducible repeat (first | refine aK_ ?_ _ | refine ay_ ?_ | refine aI_ ?_ _)); exact BK111.out⟩, ⟨by (with_reducible repeat (first | refine aK_ ?_ _ | refine ay_ ?_ | refine aI_ ?_ _)); exact BK112.out⟩, ⟨by (with_reducible repeat (first | refine aK_ ?_ _ | refine ay_ ?_ | refine aI_ ?_ _)); exact BK120.out⟩, ⟨bq⟩⟩
       case rest => as_aux_lemma =>
        clear HC35
        obtain ⟨kq, x67_34, rfl, HA, HJ34, HO_7, HO_112001, HO_113001, HO_121001, BK111, BK112, BK120, HB⟩ := hcut
        cases kq with
        | zero => exact absurd HA.out (by simp [ac_.j2])
        | succ kj34 =>
         have H := HA.out
         clear HA
         simp only [ac_.j2] at H
         have HC42 := Aside0.mk H
         clear H
         go_upto_if 67 with (fail)
         go_cut [] (fun wc => ∃ (kq : Nat), Aside0 (ac_.j3 kq t113 t116 t117 = some r) ∧ Aside0 (kq ≤ kj34) ∧ Aside0 (Kd.N k28 28 wc w.heap.size (fun k_ => some k_ ≠ ((.slice Ao18 t104.length co18) : Value).ownBlock ∧ some k_ ≠ ((.slice Ao20 t108.length co20) : Value).ownBlock ∧ some k_ ≠ ((.slice Ao26 t117.length co26) : Value).ownBlock ∧ k_ ≠ gb111 ∧ k_ ≠ gb112 ∧ k_ ≠ gb120) v114 t113) ∧ Aside0 (Kd.Q (Kd.int .i64) 2 wc w.heap.size (fun k_ => some k_ ≠ ((.slice Ao20 t108.length co20) : Value).ownBlock ∧ some k_ ≠ ((.slice Ao26 t117.length co26) : Value).ownBlock) (.slice Ao18 t104.length co18) t104) ∧ Aside0 (Kd.Q (Kd.int .i64) 2 wc w.heap.size (fun k_ => some k_ ≠ ((.slice Ao18 t104.length co18) : Value).ownBlock ∧ some k_ ≠ ((.slice Ao26 t117.length co26) : Value).ownBlock) (.slice Ao20 t108.length co20) t108) ∧ Aside0 (Kd.Q (Kd.int .i64) 2 wc w.heap.size (fun k_ => some k_ ≠ ((.slice Ao18 t104.length co18) : Value).ownBlock ∧ some k_ ≠ ((.slice Ao20 t108.length co20) : Value).ownBlock) (.slice Ao26 t117.length co26) t117) ∧ Aside0 (wc.heap[gb111]? = some (.cells #[.string t103, (.slice Ao18 t104.length co18)] 28 (0, 0))) ∧ Aside0 (wc.heap[gb112]? = some (.cells #[.string t107, (.slice Ao20 t108.length co20)] 28 (0, 0))) ∧ Aside0 (wc.heap[gb120]? = some (.cells #[.string t116, (.slice Ao26 t117.length co26)] 28 (0, 0))) ∧ Aside0 (Below w.heap.size w wc))
         case first =>
          have H := HC42.out
          clear HC42
          by_cases c43 : x67_34 = true
          rotate_left
          ·replace c43 := Bool.eq_false_iff.mpr c43
           subst c43
           have H1 : (ac_.j3 kj34 t113 t116 t117) = some r := by rw [if_neg (show ¬ (false = true) by decide)] at H; exact H
           clear H
           have H := H1
           clear H1
           have H' := Aside0.mk H
           clear H
           go_wp2
           go_meet
           case rel => exact ⟨_, H', ⟨by have := HJ2.out; have := HJ11.out; have := HJ34.out; first | omega | exact Nat.le_refl _⟩, ⟨nz HO_7.out⟩, ⟨by (with_reducible repeat (first | apply Kd.ap_ | apply Kd.aq_ | apply Kd.as_)); exact HO_112001.out⟩, ⟨by (with_reducible repeat (first | apply Kd.ap_ | apply Kd.aq_ | apply Kd.as_)); exact HO_113001.out⟩, ⟨by (with_reducible repeat (first | apply Kd.ap_ | apply Kd.aq_ | apply Kd.as_)); exact HO_121001.out⟩, ⟨by (with_reducible repeat (first | refine aK_ ?_ _ | refine ay_ ?_ | refine aI_ ?_ _)); exact BK111.out⟩, ⟨by (with_reducible repeat (first | refine aK_ ?_ _ | refine ay_ ?_ | refine aI_ ?_ _)); exact BK112.out⟩, ⟨by (with_reducible repeat (first | refine aK_ ?_ _ | refine ay_ ?_ | refine aI_ ?_ _)); exact BK120.out⟩, ⟨bq⟩⟩
          subst c43
          have H1 : ((ar_.f kj34 t103 t104 t116 t117).bind fun bt126 => ((ar_.f kj34 t116 t117 t107 t108).bind fun bt128 => (if bt126.2 = 0 then (if bt128.2 = 0 then (if t121 > (wrap64 (bt126.1 + bt128.1)) then (some false) else ((bz_.f kj34 t104 t108).bind fun t130 => (if ((t121 == 0) != t130) = true then (some false) else (ac_.j3 kj34 t113 t116 t117)))) else (some false)) else (some false)))) = some r := by rw [if_pos rfl] at H; exact H
          clear H
          have H := H1
          clear H1
          replace H := Option.bind_eq_some_iff.mp H
          obtain ⟨⟨t126, t127⟩, A440, H⟩ := H
          (try dsimp only at H)
          have A44 := Aside0.mk A440
          clear A440
          replace H := Option.bind_eq_some_iff.mp H
          obtain ⟨⟨t128, t129⟩, A450, H⟩ := H
          (try dsimp only at H)
          have A45 := Aside0.mk A450
          clear A450
          by_cases c46 : t127 = 0
          rotate_left
          ·rw [if_neg c46] at H
           have c46b0 : (t127 == 0) = false := beq_eq_false_iff_ne.mpr c46
           have c46b1 : (t127 != 0) = true := bne_iff_ne.mpr c46
           (first | rw [c46b0] | (simp only [i64_w, i32_w]; rw [c46b0]) | (simp only [c46b1, Bool.not_true, Bool.not_false]) | (simp only [c46b0, Bool.not_true, Bool.not_false]) | skip)
           obtain rfl := Option.some.inj H
           have hnb81 := NB111_112.out
           have hnc81 := NB112_111.out
           have hnb82 := NB111_120.out
           have hnc82 := NB120_111.out
           obtain ⟨hcz83_0, hcz83_1⟩ := cz2_ BK111.out
           obtain ⟨hfz83_0, hfz83_1⟩ := fz2_ BK111.out
           have hnb84 := NB120_112.out
           have hnc84 := NB112_120.out
           obtain ⟨hcz85_0, hcz85_1⟩ := cz2_ BK120.out
           obtain ⟨hfz85_0, hfz85_1⟩ := fz2_ BK120.out
           go_wp2_with (first | ((with_reducible refine av_ (f := 15) rfl ?_); refine bo_ (some 71) rfl rfl Try.func15 (by kernel_rfl) rfl #[.agg #[.string t103, .slice Ao18 t104.length co18], .agg #[.string t116, .slice Ao26 t117.length co26]] rfl (by first | rfl | (simp only [lma_, lmc_, lmn_]; first | done | rfl)) ?_; (with_reducible refine (ar_.calls kj34 t103 _ _ t104 t116 _ _ t117 t126 t127 _ ?side1 ?side2 ?side3 ?side4 A44.out).mono ?_); (case side1 => exact cz (Kd.aN_ HO_112001.out).2.2); (case side2 => exact (Kd.aN_ HO_112001.out).2.1); (case side3 => exact cz (Kd.aN_ HO_121001.out).2.2); (case side4 => exact (Kd.aN_ HO_121001.out).2.1); rintro e w86 ⟨rfl, hb⟩; refine ⟨_, rfl, ?_⟩; replace HO_7 := Aside0.mk (Kd.cd_ (nz HO_7.out) hb); replace HO_112001 := Aside0.mk (Kd.aU_ (by (with_reducible repeat (first | apply Kd.ap_ | apply Kd.aq_ | apply Kd.as_)); exact HO_112001.out) hb); replace HO_113001 := Aside0.mk (Kd.aU_ (by (with_reducible repeat (first | apply Kd.ap_ | apply Kd.aq_ | apply Kd.as_)); exact HO_113001.out) hb); replace HO_121001 := Aside0.mk (Kd.aU_ (by (with_reducible repeat (first | apply Kd.ap_ | apply Kd.aq_ | apply Kd.as_)); exact HO_121001.out) hb); replace BK111 := Aside0.mk (ag_ (kz BK111.out) hb); replace BK112 := Aside0.mk (ag_ (kz BK112.out) hb); replace BK120 := Aside0.mk (ag_ (kz BK120.out) hb); replace HB := Aside0.mk (am_ (bq) hb); (try clear hb); obtain ⟨hcz87_0, hcz87_1⟩ := cz2_ BK120.out; obtain ⟨hfz87_0, hfz87_1⟩ := fz2_ BK120.out; obtain ⟨hcz88_0, hcz88_1⟩ := cz2_ BK112.out; obtain ⟨hfz88_0, hfz88_1⟩ := fz2_ BK112.out) | ((with_reducible refine av_ (f := 15) rfl ?_); refine bo_ (some 77) rfl rfl Try.func15 (by kernel_rfl) rfl #[.agg #[.string t116, .slice Ao26 t117.length co26], .agg #[.string t107, .slice Ao20 t108.length co20]] rfl (by first | rfl | (simp only [lma_, lmc_, lmn_]; first | done | rfl)) ?_; (with_reducible refine (ar_.calls kj34 t116 _ _ t117 t107 _ _ t108 t128 t129 _ ?side1 ?side2 ?side3 ?side4 A45.out).mono ?_); (case side1 => exact cz (Kd.aN_ HO_121001.out).2.2); (case side2 => exact (Kd.aN_ HO_121001.out).2.1); (case side3 => exact cz (Kd.aN_ HO_113001.out).2.2); (case side4 => exact (Kd.aN_ HO_113001.out).2.1); rintro e w89 ⟨rfl, hb⟩; refine ⟨_, rfl, ?_⟩; replace HO_7 := Aside0.mk (Kd.cd_ (nz HO_7.out) hb); replace HO_112001 := Aside0.mk (Kd.aU_ (by (with_reducible repeat (first | apply Kd.ap_ | apply Kd.aq_ | apply Kd.as_)); exact HO_112001.out) hb); replace HO_113001 := Aside0.mk (Kd.aU_ (by (with_reducible repeat (first | apply Kd.ap_ | apply Kd.aq_ | apply Kd.as_)); exact HO_113001.out) hb); replace HO_121001 := Aside0.mk (Kd.aU_ (by (with_reducible repeat (first | apply Kd.ap_ | apply Kd.aq_ | apply Kd.as_)); exact HO_121001.out) hb); replace BK111 := Aside0.mk (ag_ (kz BK111.out) hb); replace BK112 := Aside0.mk (ag_ (kz BK112.out) hb); replace BK120 := Aside0.mk (ag_ (kz BK120.out) hb); replace HB := Aside0.mk (am_ (bq) hb); (try clear hb)))
           go_ret
           exact ⟨by first | rfl | (simp [*, aH_, aG_] <;> rfl), bq⟩
          rw [if_pos c46] at H
          have c46b0 : (t127 == 0) = true := beq_iff_eq.mpr c46
          have c46b1 : (t127 != 0) = false := bne_eq_false_iff_eq.mpr c46
          clear c46
          (first | rw [c46b0] | (simp only [i64_w, i32_w]; rw [c46b0]) | (simp only [c46b1, Bool.not_true, Bool.not_false]) | (simp only [c46b0, Bool.not_true, Bool.not_false]) | skip)
          by_cases c47 : t129 = 0
          rotate_left
          ·rw [if_neg c47] at H
           have c47b0 : (t129 == 0) = false := beq_eq_false_iff_ne.mpr c47
           have c47b1 : (t129 != 0) = true := bne_iff_ne.mpr c47
           obtain rfl := Option.some.inj H
           have hnb72 := NB111_112.out
           have hnc72 := NB112_111.out
           have hnb73 := NB111_120.out
           have hnc73 := NB120_111.out
           obtain ⟨hcz74_0, hcz74_1⟩ := cz2_ BK111.out
           obtain ⟨hfz74_0, hfz74_1⟩ := fz2_ BK111.out
           have hnb75 := NB120_112.out
           have hnc75 := NB112_120.out
           obtain ⟨hcz76_0, hcz76_1⟩ := cz2_ BK120.out
           obtain ⟨hfz76_0, hfz76_1⟩ := fz2_ BK120.out
           go_wp2_with (first | ((with_reducible refine av_ (f := 15) rfl ?_); refine bo_ (some 71) rfl rfl Try.func15 (by kernel_rfl) rfl #[.agg #[.string t103, .slice Ao18 t104.length co18], .agg #[.string t116, .slice Ao26 t117.length co26]] rfl (by first | rfl | (simp only [lma_, lmc_, lmn_]; first | done | rfl)) ?_; (with_reducible refine (ar_.calls kj34 t103 _ _ t104 t116 _ _ t117 t126 t127 _ ?side1 ?side2 ?side3 ?side4 A44.out).mono ?_); (case side1 => exact cz (Kd.aN_ HO_112001.out).2.2); (case side2 => exact (Kd.aN_ HO_112001.out).2.1); (case side3 => exact cz (Kd.aN_ HO_121001.out).2.2); (case side4 => exact (Kd.aN_ HO_121001.out).2.1); rintro e w77 ⟨rfl, hb⟩; refine ⟨_, rfl, ?_⟩; replace HO_7 := Aside0.mk (Kd.cd_ (nz HO_7.out) hb); replace HO_112001 := Aside0.mk (Kd.aU_ (by (with_reducible repeat (first | apply Kd.ap_ | apply Kd.aq_ | apply Kd.as_)); exact HO_112001.out) hb); replace HO_113001 := Aside0.mk (Kd.aU_ (by (with_reducible repeat (first | apply Kd.ap_ | apply Kd.aq_ | apply Kd.as_)); exact HO_113001.out) hb); replace HO_121001 := Aside0.mk (Kd.aU_ (by (with_reducible repeat (first | apply Kd.ap_ | apply Kd.aq_ | apply Kd.as_)); exact HO_121001.out) hb); replace BK111 := Aside0.mk (ag_ (kz BK111.out) hb); replace BK112 := Aside0.mk (ag_ (kz BK112.out) hb); replace BK120 := Aside0.mk (ag_ (kz BK120.out) hb); replace HB := Aside0.mk (am_ (bq) hb); (try clear hb); obtain ⟨hcz78_0, hcz78_1⟩ := cz2_ BK120.out; obtain ⟨hfz78_0, hfz78_1⟩ := fz2_ BK120.out; obtain ⟨hcz79_0, hcz79_1⟩ := cz2_ BK112.out; obtain ⟨hfz79_0, hfz79_1⟩ := fz2_ BK112.out) | ((with_reducible refine av_ (f := 15) rfl ?_); refine bo_ (some 77) rfl rfl Try.func15 (by kernel_rfl) rfl #[.agg #[.string t116, .slice Ao26 t117.length co26], .agg #[.string t107, .slice Ao20 t108.length co20]] rfl (by first | rfl | (simp only [lma_, lmc_, lmn_]; first | done | rfl)) ?_; (with_reducible refine (ar_.calls kj34 t116 _ _ t117 t107 _ _ t108 t128 t129 _ ?side1 ?side2 ?side3 ?side4 A45.out).mono ?_); (case side1 => exact cz (Kd.aN_ HO_121001.out).2.2); (case side2 => exact (Kd.aN_ HO_121001.out).2.1); (case side3 => exact cz (Kd.aN_ HO_113001.out).2.2); (case side4 => exact (Kd.aN_ HO_113001.out).2.1); rintro e w80 ⟨rfl, hb⟩; refine ⟨_, rfl, ?_⟩; replace HO_7 := Aside0.mk (Kd.cd_ (nz HO_7.out) hb); replace HO_112001 := Aside0.mk (Kd.aU_ (by (with_reducible repeat (first | apply Kd.ap_ | apply Kd.aq_ | apply Kd.as_)); exact HO_112001.out) hb); replace HO_113001 := Aside0.mk (Kd.aU_ (by (with_reducible repeat (first | apply Kd.ap_ | apply Kd.aq_ | apply Kd.as_)); exact HO_113001.out) hb); replace HO_121001 := Aside0.mk (Kd.aU_ (by (with_reducible repeat (first | apply Kd.ap_ | apply Kd.aq_ | apply Kd.as_)); exact HO_121001.out) hb); replace BK111 := Aside0.mk (ag_ (kz BK111.out) hb); replace BK112 := Aside0.mk (ag_ (kz BK112.out) hb); replace BK120 := Aside0.mk (ag_ (kz BK120.out) hb); replace HB := Aside0.mk (am_ (bq) hb); (try clear hb)))
           go_ret
           exact ⟨by first | rfl | (simp [*, aH_, aG_] <;> rfl), bq⟩
          rw [if_pos c47] at H
          have c47b0 : (t129 == 0) = true := beq_iff_eq.mpr c47
          have c47b1 : (t129 != 0) = false := bne_eq_false_iff_eq.mpr c47
          clear c47
          by_cases c48 : t121 > (wrap64 (t126 + t128))
          rotate_left
          ·rw [if_neg c48] at H
           have c48b0 : decide ((wrap64 (t126 + t128)) < t121) = false := decide_eq_false c48
           clear c48
           replace H := Option.bind_eq_some_iff.mp H
           obtain ⟨t130, A580, H⟩ := H
           (try dsimp only at H)
           have A58 := Aside0.mk A580
           clear A580
           have HC59 := Aside0.mk H
           clear H
           have hnb60 := NB111_112.out
           have hnc60 := NB112_111.out
           have hnb61 := NB111_120.out
           have hnc61 := NB120_111.out
           obtain ⟨hcz62_0, hcz62_1⟩ := cz2_ BK111.out
           obtain ⟨hfz62_0, hfz62_1⟩ := fz2_ BK111.out
           have hnb63 := NB120_112.out
           have hnc63 := NB112_120.out
           obtain ⟨hcz64_0, hcz64_1⟩ := cz2_ BK120.out
           obtain ⟨hfz64_0, hfz64_1⟩ := fz2_ BK120.out
           go_upto_if 102 with (first | ((with_reducible refine av_ (f := 15) rfl ?_); refine bo_ (some 71) rfl rfl Try.func15 (by kernel_rfl) rfl #[.agg #[.string t103, .slice Ao18 t104.length co18], .agg #[.string t116, .slice Ao26 t117.length co26]] rfl (by first | rfl | (simp only [lma_, lmc_, lmn_]; first | done | rfl)) ?_; (with_reducible refine (ar_.calls kj34 t103 _ _ t104 t116 _ _ t117 t126 t127 _ ?side1 ?side2 ?side3 ?side4 A44.out).mono ?_); (case side1 => exact cz (Kd.aN_ HO_112001.out).2.2); (case side2 => exact (Kd.aN_ HO_112001.out).2.1); (case side3 => exact cz (Kd.aN_ HO_121001.out).2.2); (case side4 => exact (Kd.aN_ HO_121001.out).2.1); rintro e w65 ⟨rfl, hb⟩; refine ⟨_, rfl, ?_⟩; replace HO_7 := Aside0.mk (Kd.cd_ (nz HO_7.out) hb); replace HO_112001 := Aside0.mk (Kd.aU_ (by (with_reducible repeat (first | apply Kd.ap_ | apply Kd.aq_ | apply Kd.as_)); exact HO_112001.out) hb); replace HO_113001 := Aside0.mk (Kd.aU_ (by (with_reducible repeat (first | apply Kd.ap_ | apply Kd.aq_ | apply Kd.as_)); exact HO_113001.out) hb); replace HO_121001 := Aside0.mk (Kd.aU_ (by (with_reducible repeat (first | apply Kd.ap_ | apply Kd.aq_ | apply Kd.as_)); exact HO_121001.out) hb); replace BK111 := Aside0.mk (ag_ (kz BK111.out) hb); replace BK112 := Aside0.mk (ag_ (kz BK112.out) hb); replace BK120 := Aside0.mk (ag_ (kz BK120.out) hb); replace HB := Aside0.mk (am_ (bq) hb); (try clear hb); obtain ⟨hcz66_0, hcz66_1⟩ := cz2_ BK120.out; obtain ⟨hfz66_0, hfz66_1⟩ := fz2_ BK120.out; obtain ⟨hcz67_0, hcz67_1⟩ := cz2_ BK112.out; obtain ⟨hfz67_0, hfz67_1⟩ := fz2_ BK112.out) | ((with_reducible refine av_ (f := 15) rfl ?_); refine bo_ (some 77) rfl rfl Try.func15 (by kernel_rfl) rfl #[.agg #[.string t116, .slice Ao26 t117.length co26], .agg #[.string t107, .slice Ao20 t108.length co20]] rfl (by first | rfl | (simp only [lma_, lmc_, lmn_]; first | done | rfl)) ?_; (with_reducible refine (ar_.calls kj34 t116 _ _ t117 t107 _ _ t108 t128 t129 _ ?side1 ?side2 ?side3 ?side4 A45.out).mono ?_); (case side1 => exact cz (Kd.aN_ HO_121001.out).2.2); (case side2 => exact (Kd.aN_ HO_121001.out).2.1); (case side3 => exact cz (Kd.aN_ HO_113001.out).2.2); (case side4 => exact (Kd.aN_ HO_113001.out).2.1); rintro e w68 ⟨rfl, hb⟩; refine ⟨_, rfl, ?_⟩; replace HO_7 := Aside0.mk (Kd.cd_ (nz HO_7.out) hb); replace HO_112001 := Aside0.mk (Kd.aU_ (by (with_reducible repeat (first | apply Kd.ap_ | apply Kd.aq_ | apply Kd.as_)); exact HO_112001.out) hb); replace HO_113001 := Aside0.mk (Kd.aU_ (by (with_reducible repeat (first | apply Kd.ap_ | apply Kd.aq_ | apply Kd.as_)); exact HO_113001.out) hb); replace HO_121001 := Aside0.mk (Kd.aU_ (by (with_reducible repeat (first | apply Kd.ap_ | apply Kd.aq_ | apply Kd.as_)); exact HO_121001.out) hb); replace BK111 := Aside0.mk (ag_ (kz BK111.out) hb); replace BK112 := Aside0.mk (ag_ (kz BK112.out) hb); replace BK120 := Aside0.mk (ag_ (kz BK120.out) hb); replace HB := Aside0.mk (am_ (bq) hb); (try clear hb); obtain ⟨hcz69_0, hcz69_1⟩ := cz2_ BK111.out; obtain ⟨hfz69_0, hfz69_1⟩ := fz2_ BK111.out; obtain ⟨hcz70_0, hcz70_1⟩ := cz2_ BK112.out; obtain ⟨hfz70_0, hfz70_1⟩ := fz2_ BK112.out) | (go_at_call 39; (with_reducible refine (bz_.calls kj34 _ _ t104 _ _ t108 t130 _ ?side1 ?side2 ?side3 ?side4 A58.out).mono ?_); (case side1 => exact cz (Kd.aN_ HO_112001.out).2.2); (case side2 => exact (Kd.aN_ HO_112001.out).2.1); (case side3 => exact cz (Kd.aN_ HO_113001.out).2.2); (case side4 => exact (Kd.aN_ HO_113001.out).2.1); rintro e w' ⟨rfl, ⟨nd, rfl⟩⟩; (try (rw [ce_ w68]; generalize hq_ : World.drewN w68 _ = w68; have n0_ : Aside0 (Kd.Q (Kd.int .i64) 2 w68 w.heap.size (fun k_ => (some k_ ≠ (.slice Ao20 t108.length co20 : Value).ownBlock ∧ some k_ ≠ (.slice Ao26 t117.length co26 : Value).ownBlock)) (.slice Ao18 t104.length co18) t104) := ⟨by rw [← hq_]; exact (by (with_reducible repeat (first | apply Kd.ap_ | apply Kd.aq_ | apply Kd.as_)); exact HO_112001.out)⟩; have n1_ : Aside0 (Kd.Q (Kd.int .i64) 2 w68 w.heap.size (fun k_ => (some k_ ≠ (.slice Ao18 t104.length co18 : Value).ownBlock ∧ some k_ ≠ (.slice Ao26 t117.length co26 : Value).ownBlock)) (.slice Ao20 t108.length co20) t108) := ⟨by rw [← hq_]; exact (by (with_reducible repeat (first | apply Kd.ap_ | apply Kd.aq_ | apply Kd.as_)); exact HO_113001.out)⟩; have n2_ : Aside0 (Kd.Q (Kd.int .i64) 2 w68 w.heap.size (fun k_ => (some k_ ≠ (.slice Ao18 t104.length co18 : Value).ownBlock ∧ some k_ ≠ (.slice Ao20 t108.length co20 : Value).ownBlock)) (.slice Ao26 t117.length co26) t117) := ⟨by rw [← hq_]; exact (by (with_reducible repeat (first | apply Kd.ap_ | apply Kd.aq_ | apply Kd.as_)); exact HO_121001.out)⟩; have n3_ : Aside0 (Kd.N k28 28 w68 w.heap.size (fun k_ => (some k_ ≠ (.slice Ao18 t104.length co18 : Value).ownBlock ∧ (some k_ ≠ (.slice Ao20 t108.length co20 : Value).ownBlock ∧ (some k_ ≠ (.slice Ao26 t117.length co26 : Value).ownBlock ∧ (k_ ≠ gb111 ∧ (k_ ≠ gb112 ∧ k_ ≠ gb120)))))) v114 t113) := ⟨by rw [← hq_]; exact (nz HO_7.out)⟩; have n4_ : Aside0 (w68.heap[gb111]? = some (.cells #[.string t103, .slice Ao18 t104.length co18] 28 (0, 0))) := ⟨by rw [← hq_]; exact (kz BK111.out)⟩; have n5_ : Aside0 (w68.heap[gb112]? = some (.cells #[.string t107, .slice Ao20 t108.length co20] 28 (0, 0))) := ⟨by rw [← hq_]; exact (kz BK112.out)⟩; have n6_ : Aside0 (w68.heap[gb120]? = some (.cells #[.string t116, .slice Ao26 t117.length co26] 28 (0, 0))) := ⟨by rw [← hq_]; exact (kz BK120.out)⟩; have n7_ : Aside0 (Below w.heap.size w w68) := ⟨by rw [← hq_]; exact (bq)⟩; clear HO_112001 HO_113001 HO_121001 HO_7 BK111 BK112 BK120 HB hq_; have HO_112001 := n0_; have HO_113001 := n1_; have HO_121001 := n2_; have HO_7 := n3_; have BK111 := n4_; have BK112 := n5_; have BK120 := n6_; have HB := n7_; clear n0_ n1_ n2_ n3_ n4_ n5_ n6_ n7_))))
           (try simp only [Act.put, lsa_, ls0_, ls1_])
           have H := HC59.out
           clear HC59
           by_cases c71 : ((t121 == 0) != t130) = true
           rotate_left
           ·rw [if_neg c71] at H
            have c71b0 : ((t121 == 0) != t130) = false := by simpa using c71
            (try (have c71b1 : decide ((t121 == 0) = t130) = true := by simpa using c71))
            (try (have c71b2 : ((t121 == 0) == t130) = true := by simpa using c71))
            clear c71
            (first | rw [c71b0] | (simp only [i64_w, i32_w]; rw [c71b0]) | (simp only [c71b2, Bool.not_true, Bool.not_false]) | (simp only [c71b1, Bool.not_true, Bool.not_false]) | (simp only [c71b0, Bool.not_true, Bool.not_false]) | skip)
            have H' := Aside0.mk H
            clear H
            go_wp2
            go_meet
            case rel => exact ⟨_, H', ⟨by have := HJ2.out; have := HJ11.out; have := HJ34.out; first | omega | exact Nat.le_refl _⟩, ⟨nz HO_7.out⟩, ⟨by (with_reducible repeat (first | apply Kd.ap_ | apply Kd.aq_ | apply Kd.as_)); exact HO_112001.out⟩, ⟨by (with_reducible repeat (first | apply Kd.ap_ | apply Kd.aq_ | apply Kd.as_)); exact HO_113001.out⟩, ⟨by (with_reducible repeat (first | apply Kd.ap_ | apply Kd.aq_ | apply Kd.as_)); exact HO_121001.out⟩, ⟨by (with_reducible repeat (first | refine aK_ ?_ _ | refine ay_ ?_ | refine aI_ ?_ _)); exact BK111.out⟩, ⟨by (with_reducible repeat (first | refine aK_ ?_ _ | refine ay_ ?_ | refine aI_ ?_ _)); exact BK112.out⟩, ⟨by (with_reducible repeat (first | refine aK_ ?_ _ | refine ay_ ?_ | refine aI_ ?_ _)); exact BK120.out⟩, ⟨bq⟩⟩
           rw [if_pos c71] at H
           have c71b0 : ((t121 == 0) != t130) = true := c71
           (try (have c71b1 : decide ((t121 == 0) = t130) = false := by simpa using c71))
           (try (have c71b2 : ((t121 == 0) == t130) = false := by simpa using c71))
           (try (have c71b3 : ¬ ((t121 == 0) = t130) := by simpa using c71))
           clear c71
           (first | rw [c71b0] | (simp only [i64_w, i32_w]; rw [c71b0]) | (simp only [c71b2, Bool.not_true, Bool.not_false]) | (simp only [c71b1, Bool.not_true, Bool.not_false]) | (simp only [c71b0, Bool.not_true, Bool.not_false]) | skip)
           obtain rfl := Option.some.inj H
           go_wp2
           go_ret
           exact ⟨by first | rfl | (simp [*, aH_, aG_] <;> rfl), bq⟩
          rw [if_pos c48] at H
          have c48b0 : decide ((wrap64 (t126 + t128)) < t121) = true := decide_eq_true c48
          clear c48
          obtain rfl := Option.some.inj H
          have hnb49 := NB111_112.out
          have hnc49 := NB112_111.out
          have hnb50 := NB111_120.out
          have hnc50 := NB120_111.out
          obtain ⟨hcz51_0, hcz51_1⟩ := cz2_ BK111.out
          obtain ⟨hfz51_0, hfz51_1⟩ := fz2_ BK111.out
          have hnb52 := NB120_112.out
          have hnc52 := NB112_120.out
          obtain ⟨hcz53_0, hcz53_1⟩ := cz2_ BK120.out
          obtain ⟨hfz53_0, hfz53_1⟩ := fz2_ BK120.out
          go_wp2_with (first | ((with_reducible refine av_ (f := 15) rfl ?_); refine bo_ (some 71) rfl rfl Try.func15 (by kernel_rfl) rfl #[.agg #[.string t103, .slice Ao18 t104.length co18], .agg #[.string t116, .slice Ao26 t117.length co26]] rfl (by first | rfl | (simp only [lma_, lmc_, lmn_]; first | done | rfl)) ?_; (with_reducible refine (ar_.calls kj34 t103 _ _ t104 t116 _ _ t117 t126 t127 _ ?side1 ?side2 ?side3 ?side4 A44.out).mono ?_); (case side1 => exact cz (Kd.aN_ HO_112001.out).2.2); (case side2 => exact (Kd.aN_ HO_112001.out).2.1); (case side3 => exact cz (Kd.aN_ HO_121001.out).2.2); (case side4 => exact (Kd.aN_ HO_121001.out).2.1); rintro e w54 ⟨rfl, hb⟩; refine ⟨_, rfl, ?_⟩; replace HO_7 := Aside0.mk (Kd.cd_ (nz HO_7.out) hb); replace HO_112001 := Aside0.mk (Kd.aU_ (by (with_reducible repeat (first | apply Kd.ap_ | apply Kd.aq_ | apply Kd.as_)); exact HO_112001.out) hb); replace HO_113001 := Aside0.mk (Kd.aU_ (by (with_reducible repeat (first | apply Kd.ap_ | apply Kd.aq_ | apply Kd.as_)); exact HO_113001.out) hb); replace HO_121001 := Aside0.mk (Kd.aU_ (by (with_reducible repeat (first | apply Kd.ap_ | apply Kd.aq_ | apply Kd.as_)); exact HO_121001.out) hb); replace BK111 := Aside0.mk (ag_ (kz BK111.out) hb); replace BK112 := Aside0.mk (ag_ (kz BK112.out) hb); replace BK120 := Aside0.mk (ag_ (kz BK120.out) hb); replace HB := Aside0.mk (am_ (bq) hb); (try clear hb); obtain ⟨hcz55_0, hcz55_1⟩ := cz2_ BK120.out; obtain ⟨hfz55_0, hfz55_1⟩ := fz2_ BK120.out; obtain ⟨hcz56_0, hcz56_1⟩ := cz2_ BK112.out; obtain ⟨hfz56_0, hfz56_1⟩ := fz2_ BK112.out) | ((with_reducible refine av_ (f := 15) rfl ?_); refine bo_ (some 77) rfl rfl Try.func15 (by kernel_rfl) rfl #[.agg #[.string t116, .slice Ao26 t117.length co26], .agg #[.string t107, .slice Ao20 t108.length co20]] rfl (by first | rfl | (simp only [lma_, lmc_, lmn_]; first | done | rfl)) ?_; (with_reducible refine (ar_.calls kj34 t116 _ _ t117 t107 _ _ t108 t128 t129 _ ?side1 ?side2 ?side3 ?side4 A45.out).mono ?_); (case side1 => exact cz (Kd.aN_ HO_121001.out).2.2); (case side2 => exact (Kd.aN_ HO_121001.out).2.1); (case side3 => exact cz (Kd.aN_ HO_113001.out).2.2); (case side4 => exact (Kd.aN_ HO_113001.out).2.1); rintro e w57 ⟨rfl, hb⟩; refine ⟨_, rfl, ?_⟩; replace HO_7 := Aside0.mk (Kd.cd_ (nz HO_7.out) hb); replace HO_112001 := Aside0.mk (Kd.aU_ (by (with_reducible repeat (first | apply Kd.ap_ | apply Kd.aq_ | apply Kd.as_)); exact HO_112001.out) hb); replace HO_113001 := Aside0.mk (Kd.aU_ (by (with_reducible repeat (first | apply Kd.ap_ | apply Kd.aq_ | apply Kd.as_)); exact HO_113001.out) hb); replace HO_121001 := Aside0.mk (Kd.aU_ (by (with_reducible repeat (first | apply Kd.ap_ | apply Kd.aq_ | apply Kd.as_)); exact HO_121001.out) hb); replace BK111 := Aside0.mk (ag_ (kz BK111.out) hb); replace BK112 := Aside0.mk (ag_ (kz BK112.out) hb); replace BK120 := Aside0.mk (ag_ (kz BK120.out) hb); replace HB := Aside0.mk (am_ (bq) hb); (try clear hb)))
          go_ret
          exact ⟨by first | rfl | (simp [*, aH_, aG_] <;> rfl), bq⟩
         case rest => as_aux_lemma =>
          clear HC42
          obtain ⟨kq, HA, HJ41, HO_7, HO_112001, HO_113001, HO_121001, BK111, BK112, BK120, HB⟩ := hcut
          cases kq with
          | zero => exact absurd HA.out (by simp [ac_.j3])
          | succ kj41 =>
           have H := HA.out
           clear HA
           simp only [ac_.j3] at H
           replace H := Option.bind_eq_some_iff.mp H
           obtain ⟨⟨t131, t134⟩, A900, H⟩ := H
           (try dsimp only at H)
           have A90 := Aside0.mk A900
           clear A900
           have HC91 := Aside0.mk H
           clear H
           have hnb92 := NB120_111.out
           have hnc92 := NB111_120.out
           have hnb93 := NB120_112.out
           have hnc93 := NB112_120.out
           obtain ⟨hcz94_0, hcz94_1⟩ := cz2_ BK120.out
           obtain ⟨hfz94_0, hfz94_1⟩ := fz2_ BK120.out
           obtain ⟨Ao95, co95, eo95⟩ := Kd.N_slice HO_7.out
           subst eo95
           go_upto_if 110 with (first | ((with_reducible refine av_ (f := 40) rfl ?_); refine bo_ (some 106) rfl rfl Try.func40 (by kernel_rfl) rfl #[.slice Ao95 t113.length co95, .agg #[.string t116, .slice Ao26 t117.length co26]] rfl (by first | rfl | (simp only [lma_, lmc_, lmn_]; first | done | rfl)) ?_; (with_reducible refine (al_.calls kj41 _ _ t113 t116 _ _ t117 t131 t134 _ ?side1 ?side2 ?side3 ?side4 A90.out).mono ?_); (case side1 => exact cz (Kd.ck_ HO_7.out).2.2); (case side2 => exact (Kd.ck_ HO_7.out).2.1); (case side3 => exact cz (Kd.aN_ HO_121001.out).2.2); (case side4 => exact (Kd.aN_ HO_121001.out).2.1); rintro e w96 ⟨v132, rfl, ho0, hb⟩; refine ⟨_, rfl, ?_⟩; replace HO_7 := Aside0.mk (Kd.N_elder' (nz HO_7.out) (Kd.cr_ ho0) hb); have HO133 := Aside0.mk (Kd.bM_ (Kd.R_new' (Kd.R_new' (Kd.R_new' ho0 (Kd.Q_lt (by (with_reducible repeat (first | apply Kd.ap_ | apply Kd.aq_ | apply Kd.as_)); exact HO_112001.out))) (Kd.Q_lt (by (with_reducible repeat (first | apply Kd.ap_ | apply Kd.aq_ | apply Kd.as_)); exact HO_113001.out))) (Kd.Q_lt (by (with_reducible repeat (first | apply Kd.ap_ | apply Kd.aq_ | apply Kd.as_)); exact HO_121001.out))) (aA_ (bq))); replace HO_112001 := Aside0.mk (Kd.Q_elder' (by (with_reducible repeat (first | apply Kd.ap_ | apply Kd.aq_ | apply Kd.as_)); exact HO_112001.out) (Kd.cr_ ho0) hb); replace HO_113001 := Aside0.mk (Kd.Q_elder' (by (with_reducible repeat (first | apply Kd.ap_ | apply Kd.aq_ | apply Kd.as_)); exact HO_113001.out) (Kd.cr_ ho0) hb); replace HO_121001 := Aside0.mk (Kd.Q_elder' (by (with_reducible repeat (first | apply Kd.ap_ | apply Kd.aq_ | apply Kd.as_)); exact HO_121001.out) (Kd.cr_ ho0) hb); replace BK111 := Aside0.mk (ag_ (kz BK111.out) hb); replace BK112 := Aside0.mk (ag_ (kz BK112.out) hb); replace BK120 := Aside0.mk (ag_ (kz BK120.out) hb); replace HB := Aside0.mk (am_ (bq) hb); (try clear hb); (try clear ho0)))
           (try simp only [Act.put, lsa_, ls0_, ls1_])
           have H := HC91.out
           clear HC91
           by_cases c97 : t134 = 0
           rotate_left
           ·rw [if_neg c97] at H
            have c97b0 : (t134 == 0) = false := beq_eq_false_iff_ne.mpr c97
            have c97b1 : (t134 != 0) = true := bne_iff_ne.mpr c97
            (first | rw [c97b0] | (simp only [i64_w, i32_w]; rw [c97b0]) | (simp only [c97b1, Bool.not_true, Bool.not_false]) | (simp only [c97b0, Bool.not_true, Bool.not_false]) | skip)
            obtain rfl := Option.some.inj H
            obtain ⟨Ao144, co144, eo144⟩ := Kd.bP_ HO133.out
            subst eo144
            go_wp2
            go_ret
            exact ⟨by first | rfl | (simp [*, aH_, aG_] <;> rfl), bq⟩
           rw [if_pos c97] at H
           have c97b0 : (t134 == 0) = true := beq_iff_eq.mpr c97
           have c97b1 : (t134 != 0) = false := bne_eq_false_iff_eq.mpr c97
           clear c97
           (first | rw [c97b0] | (simp only [i64_w, i32_w]; rw [c97b0]) | (simp only [c97b1, Bool.not_true, Bool.not_false]) | (simp only [c97b0, Bool.not_true, Bool.not_false]) | skip)
           replace H := Option.bind_eq_some_iff.mp H
           obtain ⟨⟨t135, t136, t137⟩, A980, H⟩ := H
           (try dsimp only at H)
           have A98 := Aside0.mk A980
           clear A980
           have HC99 := Aside0.mk H
           clear H
           have hnb100 := NB120_111.out
           have hnc100 := NB111_120.out
           have hnb101 := NB120_112.out
           have hnc101 := NB112_120.out
           obtain ⟨hcz102_0, hcz102_1⟩ := cz2_ BK120.out
           obtain ⟨hfz102_0, hfz102_1⟩ := fz2_ BK120.out
           go_upto_region 18 with (first | ((with_reducible refine av_ (f := 41) rfl ?_); refine bo_ (some 117) rfl rfl Try.func41 (by kernel_rfl) rfl #[.slice Ao95 t113.length co95, .agg #[.string t116, .slice Ao26 t117.length co26]] rfl (by first | rfl | (simp only [lma_, lmc_, lmn_]; first | done | rfl)) ?_; (with_reducible refine (aC_.calls kj41 _ _ t113 t116 _ _ t117 t135 t136 t137 _ ?side1 ?side2 ?side3 ?side4 A98.out).mono ?_); (case side1 => exact cz (Kd.ck_ HO_7.out).2.2); (case side2 => exact (Kd.ck_ HO_7.out).2.1); (case side3 => exact cz (Kd.aN_ HO_121001.out).2.2); (case side4 => exact (Kd.aN_ HO_121001.out).2.1); rintro e w103 ⟨rfl, hb⟩; refine ⟨_, rfl, ?_⟩; replace HO_7 := Aside0.mk (Kd.cd_ (nz HO_7.out) hb); replace HO_112001 := Aside0.mk (Kd.aU_ (by (with_reducible repeat (first | apply Kd.ap_ | apply Kd.aq_ | apply Kd.as_)); exact HO_112001.out) hb); replace HO_113001 := Aside0.mk (Kd.aU_ (by (with_reducible repeat (first | apply Kd.ap_ | apply Kd.aq_ | apply Kd.as_)); exact HO_113001.out) hb); replace HO_121001 := Aside0.mk (Kd.aU_ (by (with_reducible repeat (first | apply Kd.ap_ | apply Kd.aq_ | apply Kd.as_)); exact HO_121001.out) hb); replace HO133 := Aside0.mk (Kd.cc_ (rz HO133.out) hb); replace BK111 := Aside0.mk (ag_ (kz BK111.out) hb); replace BK112 := Aside0.mk (ag_ (kz BK112.out) hb); replace BK120 := Aside0.mk (ag_ (kz BK120.out) hb); replace HB := Aside0.mk (am_ (bq) hb); (try clear hb)))
           (try simp only [Act.put, lsa_, ls0_, ls1_])
           go_cut [133] (fun v133 wc => ∃ (kq : Nat) (x133_98 : Bool), v133 = .bool x133_98 ∧ Aside0 (ac_.j4 kq t113 t131 t135 t136 x133_98 t116 t117 = some r) ∧ Aside0 (kq ≤ kj41) ∧ Aside0 (Kd.N k28 28 wc w.heap.size (fun k_ => some k_ ≠ (v132 : Value).ownBlock ∧ some k_ ≠ ((.slice Ao18 t104.length co18) : Value).ownBlock ∧ some k_ ≠ ((.slice Ao20 t108.length co20) : Value).ownBlock ∧ some k_ ≠ ((.slice Ao26 t117.length co26) : Value).ownBlock ∧ k_ ≠ gb111 ∧ k_ ≠ gb112 ∧ k_ ≠ gb120) (.slice Ao95 t113.length co95) t113) ∧ Aside0 (Kd.R (Kd.int .i64) 2 wc w.heap.size (fun k_ => some k_ ≠ ((.slice Ao18 t104.length co18) : Value).ownBlock ∧ some k_ ≠ ((.slice Ao20 t108.length co20) : Value).ownBlock ∧ some k_ ≠ ((.slice Ao26 t117.length co26) : Value).ownBlock) v132 t131) ∧ Aside0 (Kd.Q (Kd.int .i64) 2 wc w.heap.size (fun k_ => some k_ ≠ (v132 : Value).ownBlock ∧ some k_ ≠ ((.slice Ao20 t108.length co20) : Value).ownBlock ∧ some k_ ≠ ((.slice Ao26 t117.length co26) : Value).ownBlock) (.slice Ao18 t104.length co18) t104) ∧ Aside0 (Kd.Q (Kd.int .i64) 2 wc w.heap.size (fun k_ => some k_ ≠ (v132 : Value).ownBlock ∧ some k_ ≠ ((.slice Ao18 t104.length co18) : Value).ownBlock ∧ some k_ ≠ ((.slice Ao26 t117.length co26) : Value).ownBlock) (.slice Ao20 t108.length co20) t108) ∧ Aside0 (Kd.Q (Kd.int .i64) 2 wc w.heap.size (fun k_ => some k_ ≠ (v132 : Value).ownBlock ∧ some k_ ≠ ((.slice Ao18 t104.length co18) : Value).ownBlock ∧ some k_ ≠ ((.slice Ao20 t108.length co20) : Value).ownBlock) (.slice Ao26 t117.length co26) t117) ∧ Aside0 (wc.heap[gb111]? = some (.cells #[.string t103, (.slice Ao18 t104.length co18)] 28 (0, 0))) ∧ Aside0 (wc.heap[gb112]? = some (.cells #[.string t107, (.slice Ao20 t108.length co20)] 28 (0, 0))) ∧ Aside0 (wc.heap[gb120]? = some (.cells #[.string t116, (.slice Ao26 t117.length co26)] 28 (0, 0))) ∧ Aside0 (Below w.heap.size w wc))
           case first =>
            have H := HC99.out
            clear HC99
            by_cases c104 : (t131.length : Int) = (t113.length : Int)
            rotate_left
            ·rw [if_neg c104] at H
             have c104b0 : ((t131.length : Int) == (t113.length : Int)) = false := beq_eq_false_iff_ne.mpr c104
             have c104b1 : ((t131.length : Int) != (t113.length : Int)) = true := bne_iff_ne.mpr c104
             have c104b2 : (t131.length == t113.length) = false := by first | simpa using c104 | (simp at c104 ⊢; omega)
             (first | rw [c104b0] | (simp only [i64_w, i32_w]; rw [c104b0]) | (simp only [c104b1, Bool.not_true, Bool.not_false]) | (simp only [c104b0, Bool.not_true, Bool.not_false]) | skip)
             have H' := Aside0.mk H
             clear H
             obtain ⟨Ao106, co106, eo106⟩ := Kd.bP_ HO133.out
             subst eo106
             go_wp2
             go_meet
             case rel => exact ⟨_, (true), (by first | rfl | (simp; done) | (simp [*]; done)), H', ⟨by have := HJ2.out; have := HJ11.out; have := HJ34.out; have := HJ41.out; first | omega | exact Nat.le_refl _⟩, ⟨nz (Kd.bV_ HO_7.out (fun _ hk => ⟨hk.2, ⟨hk.1.1, ⟨hk.1.2.1, ⟨hk.1.2.2.1, ⟨hk.1.2.2.2.1, ⟨hk.1.2.2.2.2.1, hk.1.2.2.2.2.2⟩⟩⟩⟩⟩⟩))⟩, ⟨rz (Kd.bp_ HO133.out (fun _ hk => ⟨hk.1.1.2, ⟨hk.1.2, hk.2⟩⟩))⟩, ⟨by (with_reducible repeat (first | apply Kd.ap_ | apply Kd.aq_ | apply Kd.as_)); exact Kd.bJ_ HO_112001.out (fun _ hk => ⟨hk.2, ⟨hk.1.1, hk.1.2⟩⟩)⟩, ⟨by (with_reducible repeat (first | apply Kd.ap_ | apply Kd.aq_ | apply Kd.as_)); exact Kd.bJ_ HO_113001.out (fun _ hk => ⟨hk.2, ⟨hk.1.1, hk.1.2⟩⟩)⟩, ⟨by (with_reducible repeat (first | apply Kd.ap_ | apply Kd.aq_ | apply Kd.as_)); exact Kd.bJ_ HO_121001.out (fun _ hk => ⟨hk.2, ⟨hk.1.1, hk.1.2⟩⟩)⟩, ⟨by (with_reducible repeat (first | refine aK_ ?_ _ | refine ay_ ?_ | refine aI_ ?_ _)); exact BK111.out⟩, ⟨by (with_reducible repeat (first | refine aK_ ?_ _ | refine ay_ ?_ | refine aI_ ?_ _)); exact BK112.out⟩, ⟨by (with_reducible repeat (first | refine aK_ ?_ _ | refine ay_ ?_ | refine aI_ ?_ _)); exact BK120.out⟩, ⟨bq⟩⟩
            rw [if_pos c104] at H
            have c104b0 : ((t131.length : Int) == (t113.length : Int)) = true := beq_iff_eq.mpr c104
            have c104b1 : ((t131.length : Int) != (t113.length : Int)) = false := bne_eq_false_iff_eq.mpr c104
            have c104b2 : (t131.length == t113.length) = true := by first | simpa using c104 | (simp at c104 ⊢; omega)
            clear c104
            (first | rw [c104b0] | (simp only [i64_w, i32_w]; rw [c104b0]) | (simp only [c104b1, Bool.not_true, Bool.not_false]) | (simp only [c104b0, Bool.not_true, Bool.not_false]) | skip)
            have H' := Aside0.mk H
            clear H
            obtain ⟨Ao105, co105, eo105⟩ := Kd.bP_ HO133.out
            subst eo105
            go_wp2
            go_meet
            case rel => exact ⟨_, (((t137 == 0) != (decide ((t113.length : Int) > 0)))), (by first | rfl | (simp; done) | (simp [*]; done) | (simp; exact (by decide : ∀ a b : Bool, (a == b) = (!a != b)) _ _)), H', ⟨by have := HJ2.out; have := HJ11.out; have := HJ34.out; have := HJ41.out; first | omega | exact Nat.le_refl _⟩, ⟨nz (Kd.bV_ HO_7.out (fun _ hk => ⟨hk.2, ⟨hk.1.1, ⟨hk.1.2.1, ⟨hk.1.2.2.1, ⟨hk.1.2.2.2.1, ⟨hk.1.2.2.2.2.1, hk.1.2.2.2.2.2⟩⟩⟩⟩⟩⟩))⟩, ⟨rz (Kd.bp_ HO133.out (fun _ hk => ⟨hk.1.1.2, ⟨hk.1.2, hk.2⟩⟩))⟩, ⟨by (with_reducible repeat (first | apply Kd.ap_ | apply Kd.aq_ | apply Kd.as_)); exact Kd.bJ_ HO_112001.out (fun _ hk => ⟨hk.2, ⟨hk.1.1, hk.1.2⟩⟩)⟩, ⟨by (with_reducible repeat (first | apply Kd.ap_ | apply Kd.aq_ | apply Kd.as_)); exact Kd.bJ_ HO_113001.out (fun _ hk => ⟨hk.2, ⟨hk.1.1, hk.1.2⟩⟩)⟩, ⟨by (with_reducible repeat (first | apply Kd.ap_ | apply Kd.aq_ | apply Kd.as_)); exact Kd.bJ_ HO_121001.out (fun _ hk => ⟨hk.2, ⟨hk.1.1, hk.1.2⟩⟩)⟩, ⟨by (with_reducible repeat (first | refine aK_ ?_ _ | refine ay_ ?_ | refine aI_ ?_ _)); exact BK111.out⟩, ⟨by (with_reducible repeat (first | refine aK_ ?_ _ | refine ay_ ?_ | refine aI_ ?_ _)); exact BK112.out⟩, ⟨by (with_reducible repeat (first | refine aK_ ?_ _ | refine ay_ ?_ | refine aI_ ?_ _)); exact BK120.out⟩, ⟨bq⟩⟩
           case rest => as_aux_lemma =>
            clear HC99
            obtain ⟨kq, x133_98, rfl, HA, HJ98, HO_7, HO_17, HO_112001, HO_113001, HO_121001, BK111, BK112, BK120, HB⟩ := hcut
            cases kq with
            | zero => exact absurd HA.out (by simp [ac_.j4])
            | succ kj98 =>
             have H := HA.out
             clear HA
             simp only [ac_.j4] at H
             by_cases c107 : x133_98 = true
             rotate_left
             ·replace c107 := Bool.eq_false_iff.mpr c107
              subst c107
              have H1 : (ac_.l0 kj98 t113 t131 t135 t136 0 0 t116 t117) = some r := by rw [if_neg (show ¬ (false = true) by decide)] at H; exact H
              clear H
              have H := H1
              clear H1
              have H' := Aside0.mk H
              clear H
              go_wp2
              (try simp only [Act.put, lsa_, ls0_, ls1_])
              go_loopg [22, 23] kj98 (fun kq v22 v23 w' => ∃ (x22_6 : Int) (x23_6 : Int), v22 = .int .i64 x22_6 ∧ v23 = .int .i64 x23_6 ∧ Aside0 (ac_.l0 kq t113 t131 t135 t136 x22_6 x23_6 t116 t117 = some r) ∧ Aside0 (kq ≤ kj98) ∧ Aside0 (Kd.N k28 28 w' w.heap.size (fun k_ => some k_ ≠ (v132 : Value).ownBlock ∧ some k_ ≠ ((.slice Ao18 t104.length co18) : Value).ownBlock ∧ some k_ ≠ ((.slice Ao20 t108.length co20) : Value).ownBlock ∧ some k_ ≠ ((.slice Ao26 t117.length co26) : Value).ownBlock ∧ k_ ≠ gb111 ∧ k_ ≠ gb112 ∧ k_ ≠ gb120) (.slice Ao95 t113.length co95) t113) ∧ Aside0 (Kd.R (Kd.int .i64) 2 w' w.heap.size (fun k_ => some k_ ≠ ((.slice Ao18 t104.length co18) : Value).ownBlock ∧ some k_ ≠ ((.slice Ao20 t108.length co20) : Value).ownBlock ∧ some k_ ≠ ((.slice Ao26 t117.length co26) : Value).ownBlock) v132 t131) ∧ Aside0 (Kd.Q (Kd.int .i64) 2 w' w.heap.size (fun k_ => some k_ ≠ (v132 : Value).ownBlock ∧ some k_ ≠ ((.slice Ao20 t108.length co20) : Value).ownBlock ∧ some k_ ≠ ((.slice Ao26 t117.length co26) : Value).ownBlock) (.slice Ao18 t104.length co18) t104) ∧ Aside0 (Kd.Q (Kd.int .i64) 2 w' w.heap.size (fun k_ => some k_ ≠ (v132 : Value).ownBlock ∧ some k_ ≠ ((.slice Ao18 t104.length co18) : Value).ownBlock ∧ some k_ ≠ ((.slice Ao26 t117.length co26) : Value).ownBlock) (.slice Ao20 t108.length co20) t108) ∧ Aside0 (Kd.Q (Kd.int .i64) 2 w' w.heap.size (fun k_ => some k_ ≠ (v132 : Value).ownBlock ∧ some k_ ≠ ((.slice Ao18 t104.length co18) : Value).ownBlock ∧ some k_ ≠ ((.slice Ao20 t108.length co20) : Value).ownBlock) (.slice Ao26 t117.length co26) t117) ∧ Aside0 (w'.heap[gb111]? = some (.cells #[.string t103, (.slice Ao18 t104.length co18)] 28 (0, 0))) ∧ Aside0 (w'.heap[gb112]? = some (.cells #[.string t107, (.slice Ao20 t108.length co20)] 28 (0, 0))) ∧ Aside0 (w'.heap[gb120]? = some (.cells #[.string t116, (.slice Ao26 t117.length co26)] 28 (0, 0))) ∧ Aside0 (Below w.heap.size w w'))
              case atStart => exact ⟨(0), (0), (by first | rfl | (simp; done) | (simp [*]; done)), (by first | rfl | (simp; done) | (simp [*]; done)), H', ⟨Nat.le_refl _⟩, ⟨nz HO_7.out⟩, ⟨rz HO_17.out⟩, ⟨by (with_reducible repeat (first | apply Kd.ap_ | apply Kd.aq_ | apply Kd.as_)); exact HO_112001.out⟩, ⟨by (with_reducible repeat (first | apply Kd.ap_ | apply Kd.aq_ | apply Kd.as_)); exact HO_113001.out⟩, ⟨by (with_reducible repeat (first | apply Kd.ap_ | apply Kd.aq_ | apply Kd.as_)); exact HO_121001.out⟩, ⟨by (with_reducible repeat (first | refine aK_ ?_ _ | refine ay_ ?_ | refine aI_ ?_ _)); exact BK111.out⟩, ⟨by (with_reducible repeat (first | refine aK_ ?_ _ | refine ay_ ?_ | refine aI_ ?_ _)); exact BK112.out⟩, ⟨by (with_reducible repeat (first | refine aK_ ?_ _ | refine ay_ ?_ | refine aI_ ?_ _)); exact BK120.out⟩, ⟨bq⟩⟩
              case round =>
               clear H'
               obtain ⟨x22_6, x23_6, rfl, rfl, HA, HK6, HO_7, HO_17, HO_112001, HO_113001, HO_121001, BK111, BK112, BK120, HB⟩ := hrel
               cases gk with
               | zero => exact absurd HA.out (by simp [ac_.l0])
               | succ k6 =>
                have H := HA.out
                clear HA
                simp only [ac_.l0] at H
                by_cases c108 : x23_6 < (t131.length : Int)
                rotate_left
                ·rw [if_neg c108] at H
                 have c108b0 : decide (x23_6 < (t131.length : Int)) = false := decide_eq_false c108
                 clear c108
                 obtain rfl := Option.some.inj H
                 obtain ⟨Ao143, co143, eo143⟩ := Kd.bP_ HO_17.out
                 subst eo143
                 go_wp2
                 go_ret
                 exact ⟨by first | rfl | (simp [*, aH_, aG_] <;> rfl), bq⟩
                rw [if_pos c108] at H
                have c108b0 : decide (x23_6 < (t131.length : Int)) = true := decide_eq_true c108
                clear c108
                have HC109 := Aside0.mk H
                clear H
                obtain ⟨Ao110, co110, eo110⟩ := Kd.bP_ HO_17.out
                subst eo110
                go_upto_region 24 with (fail)
                go_cut [163] (fun v163 wc => ∃ (kq : Nat) (x163_108 : Bool), v163 = .bool x163_108 ∧ Aside0 (ac_.j6 kq t113 t131 t135 t136 x22_6 x23_6 x163_108 t116 t117 = some r) ∧ Aside0 (kq ≤ k6) ∧ Aside0 (Kd.N k28 28 wc w.heap.size (fun k_ => some k_ ≠ ((.slice Ao110 t131.length co110) : Value).ownBlock ∧ some k_ ≠ ((.slice Ao18 t104.length co18) : Value).ownBlock ∧ some k_ ≠ ((.slice Ao20 t108.length co20) : Value).ownBlock ∧ some k_ ≠ ((.slice Ao26 t117.length co26) : Value).ownBlock ∧ k_ ≠ gb111 ∧ k_ ≠ gb112 ∧ k_ ≠ gb120) (.slice Ao95 t113.length co95) t113) ∧ Aside0 (Kd.R (Kd.int .i64) 2 wc w.heap.size (fun k_ => some k_ ≠ ((.slice Ao18 t104.length co18) : Value).ownBlock ∧ some k_ ≠ ((.slice Ao20 t108.length co20) : Value).ownBlock ∧ some k_ ≠ ((.slice Ao26 t117.length co26) : Value).ownBlock) (.slice Ao110 t131.length co110) t131) ∧ Aside0 (Kd.Q (Kd.int .i64) 2 wc w.heap.size (fun k_ => some k_ ≠ ((.slice Ao110 t131.length co110) : Value).ownBlock ∧ some k_ ≠ ((.slice Ao20 t108.length co20) : Value).ownBlock ∧ some k_ ≠ ((.slice Ao26 t117.length co26) : Value).ownBlock) (.slice Ao18 t104.length co18) t104) ∧ Aside0 (Kd.Q (Kd.int .i64) 2 wc w.heap.size (fun k_ => some k_ ≠ ((.slice Ao110 t131.length co110) : Value).ownBlock ∧ some k_ ≠ ((.slice Ao18 t104.length co18) : Value).ownBlock ∧ some k_ ≠ ((.slice Ao26 t117.length co26) : Value).ownBlock) (.slice Ao20 t108.length co20) t108) ∧ Aside0 (Kd.Q (Kd.int .i64) 2 wc w.heap.size (fun k_ => some k_ ≠ ((.slice Ao110 t131.length co110) : Value).ownBlock ∧ some k_ ≠ ((.slice Ao18 t104.length co18) : Value).ownBlock ∧ some k_ ≠ ((.slice Ao20 t108.length co20) : Value).ownBlock) (.slice Ao26 t117.length co26) t117) ∧ Aside0 (wc.heap[gb111]? = some (.cells #[.string t103, (.slice Ao18 t104.length co18)] 28 (0, 0))) ∧ Aside0 (wc.heap[gb112]? = some (.cells #[.string t107, (.slice Ao20 t108.length co20)] 28 (0, 0))) ∧ Aside0 (wc.heap[gb120]? = some (.cells #[.string t116, (.slice Ao26 t117.length co26)] 28 (0, 0))) ∧ Aside0 (Below w.heap.size w wc))
                case first =>
                 have H := HC109.out
                 clear HC109
                 by_cases c111 : 0 ≤ x23_6
                 rotate_left
                 ·rw [if_neg c111] at H
                  exact absurd H (by simp)
                 rw [if_pos c111] at H
                 have c111b0 : decide (0 ≤ x23_6) = true := decide_eq_true c111
                 clear c111
                 (first | rw [c111b0] | (simp only [i64_w, i32_w]; rw [c111b0]) | (simp only [c111b1, Bool.not_true, Bool.not_false]) | (simp only [c111b0, Bool.not_true, Bool.not_false]) | skip)
                 by_cases c112 : (rd t131 x23_6) < 0
                 rotate_left
                 ·rw [if_neg c112] at H
                  have c112b0 : decide ((rd t131 x23_6) < 0) = false := decide_eq_false c112
                  clear c112
                  by_cases c114 : (rd t131 x23_6) ≥ (t113.length : Int)
                  rotate_left
                  ·rw [if_neg c114] at H
                   have c114b0 : decide ((t113.length : Int) ≤ (rd t131 x23_6)) = false := decide_eq_false c114
                   clear c114
                   have c116b0 := eq_true (of_decide_eq_true (by assumption) : 0 ≤ x23_6)
                   by_cases c117 : x23_6 ≤ (t131.length : Int)
                   rotate_left
                   ·rw [if_neg c117] at H
                    exact absurd H (by simp)
                   rw [if_pos c117] at H
                   have c117b0 := eq_true c117
                   have c117b1 : decide (x23_6 ≤ (t131.length : Int)) = true := decide_eq_true c117
                   clear c117
                   obtain ⟨y140, hy140⟩ : ∃ y_ : List Int, y_ = (t131.take (x23_6 : Int).toNat) := ⟨_, rfl⟩
                   replace H : ((bF_.f k6 y140 (rd t131 x23_6)).bind fun t146 => (ac_.j6 k6 t113 t131 t135 t136 x22_6 x23_6 t146 t116 t117)) = some r := by first | (rw [hy140]; with_reducible exact H) | (have H2_ := (Option.bind_some _ _).symm.trans H; rw [hy140]; with_reducible exact H2_) | (have H2_ := (Option.bind_some _ _).symm.trans H; with_reducible exact H2_) | with_reducible exact H | (rw [hy140]; exact H) | exact H
                   have Ny140 := Aside0.mk hy140
                   clear hy140
                   replace H := Option.bind_eq_some_iff.mp H
                   obtain ⟨t146, A1180, H⟩ := H
                   (try dsimp only at H)
                   have A118 := Aside0.mk A1180
                   clear A1180
                   have H' := Aside0.mk H
                   clear H
                   try go_wp2
                   (try (rw [ce_ wr]; generalize hq_ : World.drewN wr _ = wr; have n0_ : Aside0 (Kd.Q (Kd.int .i64) 2 wr w.heap.size (fun k_ => (some k_ ≠ (.slice Ao110 t131.length co110 : Value).ownBlock ∧ (some k_ ≠ (.slice Ao20 t108.length co20 : Value).ownBlock ∧ some k_ ≠ (.slice Ao26 t117.length co26 : Value).ownBlock))) (.slice Ao18 t104.length co18) t104) := ⟨by rw [← hq_]; exact (by (with_reducible repeat (first | apply Kd.ap_ | apply Kd.aq_ | apply Kd.as_)); exact HO_112001.out)⟩; have n1_ : Aside0 (Kd.Q (Kd.int .i64) 2 wr w.heap.size (fun k_ => (some k_ ≠ (.slice Ao110 t131.length co110 : Value).ownBlock ∧ (some k_ ≠ (.slice Ao18 t104.length co18 : Value).ownBlock ∧ some k_ ≠ (.slice Ao26 t117.length co26 : Value).ownBlock))) (.slice Ao20 t108.length co20) t108) := ⟨by rw [← hq_]; exact (by (with_reducible repeat (first | apply Kd.ap_ | apply Kd.aq_ | apply Kd.as_)); exact HO_113001.out)⟩; have n2_ : Aside0 (Kd.Q (Kd.int .i64) 2 wr w.heap.size (fun k_ => (some k_ ≠ (.slice Ao110 t131.length co110 : Value).ownBlock ∧ (some k_ ≠ (.slice Ao18 t104.length co18 : Value).ownBlock ∧ some k_ ≠ (.slice Ao20 t108.length co20 : Value).ownBlock))) (.slice Ao26 t117.length co26) t117) := ⟨by rw [← hq_]; exact (by (with_reducible repeat (first | apply Kd.ap_ | apply Kd.aq_ | apply Kd.as_)); exact HO_121001.out)⟩; have n3_ : Aside0 (Kd.R (Kd.int .i64) 2 wr w.heap.size (fun k_ => (some k_ ≠ (.slice Ao18 t104.length co18 : Value).ownBlock ∧ (some k_ ≠ (.slice Ao20 t108.length co20 : Value).ownBlock ∧ some k_ ≠ (.slice Ao26 t117.length co26 : Value).ownBlock))) (.slice Ao110 t131.length co110) t131) := ⟨by rw [← hq_]; exact (rz HO_17.out)⟩; have n4_ : Aside0 (Kd.N k28 28 wr w.heap.size (fun k_ => (some k_ ≠ (.slice Ao110 t131.length co110 : Value).ownBlock ∧ (some k_ ≠ (.slice Ao18 t104.length co18 : Value).ownBlock ∧ (some k_ ≠ (.slice Ao20 t108.length co20 : Value).ownBlock ∧ (some k_ ≠ (.slice Ao26 t117.length co26 : Value).ownBlock ∧ (k_ ≠ gb111 ∧ (k_ ≠ gb112 ∧ k_ ≠ gb120))))))) (.slice Ao95 t113.length co95) t113) := ⟨by rw [← hq_]; exact (nz HO_7.out)⟩; have n5_ : Aside0 (wr.heap[gb111]? = some (.cells #[.string t103, .slice Ao18 t104.length co18] 28 (0, 0))) := ⟨by rw [← hq_]; exact (kz BK111.out)⟩; have n6_ : Aside0 (wr.heap[gb112]? = some (.cells #[.string t107, .slice Ao20 t108.length co20] 28 (0, 0))) := ⟨by rw [← hq_]; exact (kz BK112.out)⟩; have n7_ : Aside0 (wr.heap[gb120]? = some (.cells #[.string t116, .slice Ao26 t117.length co26] 28 (0, 0))) := ⟨by rw [← hq_]; exact (kz BK120.out)⟩; have n8_ : Aside0 (Below w.heap.size w wr) := ⟨by rw [← hq_]; exact (bq)⟩; clear HO_112001 HO_113001 HO_121001 HO_17 HO_7 BK111 BK112 BK120 HB hq_; have HO_112001 := n0_; have HO_113001 := n1_; have HO_121001 := n2_; have HO_17 := n3_; have HO_7 := n4_; have BK111 := n5_; have BK112 := n6_; have BK120 := n7_; have HB := n8_; clear n0_ n1_ n2_ n3_ n4_ n5_ n6_ n7_ n8_))
                   have n0_ := Aside0.mk (Kd.N_drew HO_7.out)
                   have n1_ := Aside0.mk (Kd.cu_ HO_17.out)
                   have n2_ := Aside0.mk (Kd.as_ HO_112001.out)
                   have n3_ := Aside0.mk (Kd.as_ HO_113001.out)
                   have n4_ := Aside0.mk (Kd.as_ HO_121001.out)
                   have n5_ := Aside0.mk (ay_ BK111.out)
                   have n6_ := Aside0.mk (ay_ BK112.out)
                   have n7_ := Aside0.mk (ay_ BK120.out)
                   have n8_ := Aside0.mk (bD_ HB.out)
                   clear HO_7
                   clear HO_17
                   clear HO_112001
                   clear HO_113001
                   clear HO_121001
                   clear BK111
                   clear BK112
                   clear BK120
                   clear HB
                   have HO_7 := n0_
                   have HO_17 := n1_
                   have HO_112001 := n2_
                   have HO_113001 := n3_
                   have HO_121001 := n4_
                   have BK111 := n5_
                   have BK112 := n6_
                   have BK120 := n7_
                   have HB := n8_
                   clear n0_ n1_ n2_ n3_ n4_ n5_ n6_ n7_ n8_
                   have p138 : 0 ≤ (x23_6 : Int) := of_decide_eq_true (by assumption)
                   have q138 : x23_6 < (t131.length : Int) := of_decide_eq_true (by assumption)
                   obtain ⟨ad138, e138, hx138_0⟩ := Kd.bL_ (Kd.aD_ HO_17.out).2.2 x23_6 p138 q138
                   cases e138
                   replace p138 := eq_true p138
                   replace q138 := eq_true q138
                   have p139 : 0 ≤ (x23_6 : Int) := of_decide_eq_true (by assumption)
                   have q139 : x23_6 < (t131.length : Int) := of_decide_eq_true (by assumption)
                   obtain ⟨ad139, e139, hx139_0⟩ := Kd.bL_ (Kd.aD_ HO_17.out).2.2 x23_6 p139 q139
                   obtain rfl : ad138 = ad139 := (by injection e139)
                   replace p139 := eq_true p139
                   replace q139 := eq_true q139
                   have q120 : (x23_6 : Int) ≤ ((t131.length : Int) : Int) := of_decide_eq_true (by assumption)
                   obtain ⟨i0120, hi0120, _, hsz120, _⟩ := info_parts info2
                   have hroom120 : t131.length ≤ co110 := (Kd.aD_ HO_17.out).2.1
                   have hC120 : Kd.F (Kd.int .i64) _ _ (some ad138) t131.length t131 := (Kd.V_at (base := w.heap.size) (Kd.R_V (Kd.cx_ (Kd.cx_ (Kd.cx_ (Kd.cF_ (HO_17.out) (Kd.N_typed HO_7.out) (by decide)) BK111.out (by decide)) BK112.out (by decide)) BK120.out (by decide)))).2.2
                   have hcut120 := cut_to (P := Try.prog) 22 2 .i64 Try.underlying22 hi0120 (some ad138) t131.length co110 x23_6 (of_decide_eq_true (by assumption)) q120 hroom120
                   have hr120 := Kd.F_take (m := (x23_6 : Int).toNat) hC120 (by omega)
                   have hy120 : y140.length = (x23_6 : Int).toNat := (by rw [Ny140.out, List.length_take]; omega)
                   rw [← Ny140.out] at hr120
                   rw [← hy120] at hcut120
                   have HO144 := Aside0.mk (show Kd.V (Kd.int .i64) 2 _ w.heap.size _ (.slice (some ad138) y140.length co110) y140 from Kd.V_mk (by omega) hr120)
                   have HC144 := Aside0.mk (show y140.length ≤ co110 from by omega)
                   clear hr120 hC120 hroom120 hi0120 hsz120
                   have KY120 := Aside0.mk hy120
                   clear hy120
                   replace q120 := eq_true q120
                   have p145 : 0 ≤ (x23_6 : Int) := of_decide_eq_true (by assumption)
                   have q145 : x23_6 < (t131.length : Int) := of_decide_eq_true (by assumption)
                   obtain ⟨ad145, e145, hx145_0⟩ := Kd.bL_ (Kd.aD_ HO_17.out).2.2 x23_6 p145 q145
                   obtain rfl : ad138 = ad145 := (by injection e145)
                   replace p145 := eq_true p145
                   replace q145 := eq_true q145
                   refine cv_ (n := 24) (S := fun w' => w'.cell? (ad138.add (x23_6).toNat) = some (.int .i64 (rd t131 x23_6)) ∧ w'.cell? (ad138.add (x23_6).toNat) = some (.int .i64 (rd t131 x23_6)) ∧ w'.cell? (ad138.add (x23_6).toNat) = some (.int .i64 (rd t131 x23_6))) (ds := []) #[f_,f_,f_,f_,f_,f_,f_,f_,f_,f_,f_,f_,f_,f_,f_,f_,f_,f_,f_,f_,f_,f_,f_,f_] (by kernel_rfl) rfl rfl ⟨hx138_0, hx139_0, hx145_0⟩ (fun hHeld => ?_); refine bT_ ac_.tab24 ac_.bits24 (fun HT_ HW_ => ?_)
                   generalize wr.drew = w119 at HO_7 HO_17 HO_112001 HO_113001 HO_121001 BK111 BK112 BK120 HB HO144 hx138_0 hx139_0 hx145_0 hHeld ⊢
                   refine pu 0 140 #[t_,f_,f_,f_,f_,f_,f_,f_,f_,f_,f_,f_,f_,f_,f_,f_,f_,f_,f_,f_,f_,f_,f_,f_] HT_ ?_
                   refine pu 1 141 #[t_,t_,f_,f_,f_,f_,f_,f_,f_,f_,f_,f_,f_,f_,f_,f_,f_,f_,f_,f_,f_,f_,f_,f_] HT_ ?_
                   refine pu 2 142 #[t_,t_,t_,f_,f_,f_,f_,f_,f_,f_,f_,f_,f_,f_,f_,f_,f_,f_,f_,f_,f_,f_,f_,f_] HT_ ?_
                   refine tk 3 143 #[t_,t_,t_,t_,f_,f_,f_,f_,f_,f_,f_,f_,f_,f_,f_,f_,f_,f_,f_,f_,f_,f_,f_,f_] HT_ HW_ hHeld ?_ (hv := by rintro w' ⟨s0, s1, s2⟩; go_simp; with_reducible rfl)
                   refine pu 4 144 #[t_,t_,t_,t_,t_,f_,f_,f_,f_,f_,f_,f_,f_,f_,f_,f_,f_,f_,f_,f_,f_,f_,f_,f_] HT_ ?_
                   refine pu 5 145 #[t_,t_,t_,t_,t_,t_,f_,f_,f_,f_,f_,f_,f_,f_,f_,f_,f_,f_,f_,f_,f_,f_,f_,f_] HT_ ?_
                   refine pu 6 146 #[t_,t_,t_,t_,t_,t_,t_,f_,f_,f_,f_,f_,f_,f_,f_,f_,f_,f_,f_,f_,f_,f_,f_,f_] HT_ ?_
                   refine pu 7 147 #[t_,t_,t_,t_,t_,t_,t_,t_,f_,f_,f_,f_,f_,f_,f_,f_,f_,f_,f_,f_,f_,f_,f_,f_] HT_ ?_
                   refine pu 8 148 #[t_,t_,t_,t_,t_,t_,t_,t_,t_,f_,f_,f_,f_,f_,f_,f_,f_,f_,f_,f_,f_,f_,f_,f_] HT_ ?_
                   refine pu 10 150 #[t_,t_,t_,t_,t_,t_,t_,t_,t_,f_,t_,f_,f_,f_,f_,f_,f_,f_,f_,f_,f_,f_,f_,f_] HT_ ?_
                   refine pu 11 151 #[t_,t_,t_,t_,t_,t_,t_,t_,t_,f_,t_,t_,f_,f_,f_,f_,f_,f_,f_,f_,f_,f_,f_,f_] HT_ ?_
                   refine tk 9 149 #[t_,t_,t_,t_,t_,t_,t_,t_,t_,t_,t_,t_,f_,f_,f_,f_,f_,f_,f_,f_,f_,f_,f_,f_] HT_ HW_ hHeld ?_ (hv := by rintro w' ⟨s0, s1, s2⟩; go_simp; with_reducible rfl)
                   refine pu 12 152 #[t_,t_,t_,t_,t_,t_,t_,t_,t_,t_,t_,t_,t_,f_,f_,f_,f_,f_,f_,f_,f_,f_,f_,f_] HT_ ?_
                   refine pu 13 153 #[t_,t_,t_,t_,t_,t_,t_,t_,t_,t_,t_,t_,t_,t_,f_,f_,f_,f_,f_,f_,f_,f_,f_,f_] HT_ ?_
                   refine pu 14 154 #[t_,t_,t_,t_,t_,t_,t_,t_,t_,t_,t_,t_,t_,t_,t_,f_,f_,f_,f_,f_,f_,f_,f_,f_] HT_ ?_
                   refine pu 15 155 #[t_,t_,t_,t_,t_,t_,t_,t_,t_,t_,t_,t_,t_,t_,t_,t_,f_,f_,f_,f_,f_,f_,f_,f_] HT_ ?_
                   refine pu 16 156 #[t_,t_,t_,t_,t_,t_,t_,t_,t_,t_,t_,t_,t_,t_,t_,t_,t_,f_,f_,f_,f_,f_,f_,f_] HT_ ?_
                   refine pu 17 157 #[t_,t_,t_,t_,t_,t_,t_,t_,t_,t_,t_,t_,t_,t_,t_,t_,t_,t_,f_,f_,f_,f_,f_,f_] HT_ ?_
                   refine pu 18 158 #[t_,t_,t_,t_,t_,t_,t_,t_,t_,t_,t_,t_,t_,t_,t_,t_,t_,t_,t_,f_,f_,f_,f_,f_] HT_ ?_
                   refine pu 19 159 #[t_,t_,t_,t_,t_,t_,t_,t_,t_,t_,t_,t_,t_,t_,t_,t_,t_,t_,t_,t_,f_,f_,f_,f_] HT_ ?_
                   refine pu 20 160 #[t_,t_,t_,t_,t_,t_,t_,t_,t_,t_,t_,t_,t_,t_,t_,t_,t_,t_,t_,t_,t_,f_,f_,f_] HT_ ?_
                   refine tk 21 161 #[t_,t_,t_,t_,t_,t_,t_,t_,t_,t_,t_,t_,t_,t_,t_,t_,t_,t_,t_,t_,t_,t_,f_,f_] HT_ HW_ hHeld ?_ (hv := by rintro w' ⟨s0, s1, s2⟩; go_simp; with_reducible rfl)
                   refine one_ (i := 22) (N := some 162) #[t_,t_,t_,t_,t_,t_,t_,t_,t_,t_,t_,t_,t_,t_,t_,t_,t_,t_,t_,t_,t_,t_,t_,f_] rfl rfl (cs_ HT_.out (by kernel_rfl)) (by decide) (fun K hK => ?_)
                   (first | refine goes_ Try.func42 (by kernel_rfl) rfl #[.slice (some ad138) y140.length co110, .int .i64 (rd t131 x23_6)] (by rfl) rfl rfl (by first | rfl | (simp only [lma_, lmc_, lmn_]; first | done | rfl)) ?_ | refine RPW.cC_ Try.func42 (by kernel_rfl) rfl #[.slice (some ad138) y140.length co110, .int .i64 (rd t131 x23_6)] (by rfl) rfl rfl rfl (by first | rfl | (simp only [lma_, lmc_, lmn_]; first | done | rfl)) ?_ | refine RPW.cB_ Try.func42 (by kernel_rfl) rfl #[.slice (some ad138) y140.length co110, .int .i64 (rd t131 x23_6)] (by rfl) rfl rfl rfl (by first | rfl | (simp only [lma_, lmc_, lmn_]; first | done | rfl)) ?_)
                   with_reducible refine (bF_.calls k6 _ _ y140 (rd t131 x23_6) t146 _ ?side1 ?side2 A118.out).mono ?_
                   (case side1 => exact cz (Kd.V_reads' HO144.out).2.2)
                   (case side2 => exact (Kd.V_reads' HO144.out).2.1)
                   rintro e w' ⟨rfl, ⟨nd, rfl⟩⟩
                   refine ⟨_, rfl, ?_⟩
                   refine hK.out _ _ ⟨hHeld.1, hHeld.2.1, hHeld.2.2⟩ (fun hHeld => ?_)
                   clear hK K
                   refine norm_ (a' := ?_) ?_ ?_
                   rotate_left
                   ·show Act.put _ (some 162) _ = _
                    simp only [Act.put, lsa_, ls0_, ls1_, i64_w, i32_w]
                    rfl
                   refine pu 23 163 #[t_,t_,t_,t_,t_,t_,t_,t_,t_,t_,t_,t_,t_,t_,t_,t_,t_,t_,t_,t_,t_,t_,t_,t_] HT_ ?_
                   refine done_ (cl_ HT_.out (by kernel_rfl)) ?_
                   try go_wp2
                   go_meet
                   case rel => exact ⟨_, (t146), (by first | rfl | (simp; done) | (simp [*]; done)), H', ⟨by have := HJ2.out; have := HJ11.out; have := HJ34.out; have := HJ41.out; have := HJ98.out; have := HK6.out; first | omega | exact Nat.le_refl _⟩, ⟨nz HO_7.out⟩, ⟨rz HO_17.out⟩, ⟨by (with_reducible repeat (first | apply Kd.ap_ | apply Kd.aq_ | apply Kd.as_)); exact HO_112001.out⟩, ⟨by (with_reducible repeat (first | apply Kd.ap_ | apply Kd.aq_ | apply Kd.as_)); exact HO_113001.out⟩, ⟨by (with_reducible repeat (first | apply Kd.ap_ | apply Kd.aq_ | apply Kd.as_)); exact HO_121001.out⟩, ⟨by (with_reducible repeat (first | refine aK_ ?_ _ | refine ay_ ?_ | refine aI_ ?_ _)); exact BK111.out⟩, ⟨by (with_reducible repeat (first | refine aK_ ?_ _ | refine ay_ ?_ | refine aI_ ?_ _)); exact BK112.out⟩, ⟨by (with_reducible repeat (first | refine aK_ ?_ _ | refine ay_ ?_ | refine aI_ ?_ _)); exact BK120.out⟩, ⟨bq⟩⟩
                  rw [if_pos c114] at H
                  have c114b0 : decide ((t113.length : Int) ≤ (rd t131 x23_6)) = true := decide_eq_true c114
                  clear c114
                  have H' := Aside0.mk H
                  clear H
                  try go_wp2
                  (try (rw [ce_ wr]; generalize hq_ : World.drewN wr _ = wr; have n0_ : Aside0 (Kd.Q (Kd.int .i64) 2 wr w.heap.size (fun k_ => (some k_ ≠ (.slice Ao110 t131.length co110 : Value).ownBlock ∧ (some k_ ≠ (.slice Ao20 t108.length co20 : Value).ownBlock ∧ some k_ ≠ (.slice Ao26 t117.length co26 : Value).ownBlock))) (.slice Ao18 t104.length co18) t104) := ⟨by rw [← hq_]; exact (by (with_reducible repeat (first | apply Kd.ap_ | apply Kd.aq_ | apply Kd.as_)); exact HO_112001.out)⟩; have n1_ : Aside0 (Kd.Q (Kd.int .i64) 2 wr w.heap.size (fun k_ => (some k_ ≠ (.slice Ao110 t131.length co110 : Value).ownBlock ∧ (some k_ ≠ (.slice Ao18 t104.length co18 : Value).ownBlock ∧ some k_ ≠ (.slice Ao26 t117.length co26 : Value).ownBlock))) (.slice Ao20 t108.length co20) t108) := ⟨by rw [← hq_]; exact (by (with_reducible repeat (first | apply Kd.ap_ | apply Kd.aq_ | apply Kd.as_)); exact HO_113001.out)⟩; have n2_ : Aside0 (Kd.Q (Kd.int .i64) 2 wr w.heap.size (fun k_ => (some k_ ≠ (.slice Ao110 t131.length co110 : Value).ownBlock ∧ (some k_ ≠ (.slice Ao18 t104.length co18 : Value).ownBlock ∧ some k_ ≠ (.slice Ao20 t108.length co20 : Value).ownBlock))) (.slice Ao26 t117.length co26) t117) := ⟨by rw [← hq_]; exact (by (with_reducible repeat (first | apply Kd.ap_ | apply Kd.aq_ | apply Kd.as_)); exact HO_121001.out)⟩; have n3_ : Aside0 (Kd.R (Kd.int .i64) 2 wr w.heap.size (fun k_ => (some k_ ≠ (.slice Ao18 t104.length co18 : Value).ownBlock ∧ (some k_ ≠ (.slice Ao20 t108.length co20 : Value).ownBlock ∧ some k_ ≠ (.slice Ao26 t117.length co26 : Value).ownBlock))) (.slice Ao110 t131.length co110) t131) := ⟨by rw [← hq_]; exact (rz HO_17.out)⟩; have n4_ : Aside0 (Kd.N k28 28 wr w.heap.size (fun k_ => (some k_ ≠ (.slice Ao110 t131.length co110 : Value).ownBlock ∧ (some k_ ≠ (.slice Ao18 t104.length co18 : Value).ownBlock ∧ (some k_ ≠ (.slice Ao20 t108.length co20 : Value).ownBlock ∧ (some k_ ≠ (.slice Ao26 t117.length co26 : Value).ownBlock ∧ (k_ ≠ gb111 ∧ (k_ ≠ gb112 ∧ k_ ≠ gb120))))))) (.slice Ao95 t113.length co95) t113) := ⟨by rw [← hq_]; exact (nz HO_7.out)⟩; have n5_ : Aside0 (wr.heap[gb111]? = some (.cells #[.string t103, .slice Ao18 t104.length co18] 28 (0, 0))) := ⟨by rw [← hq_]; exact (kz BK111.out)⟩; have n6_ : Aside0 (wr.heap[gb112]? = some (.cells #[.string t107, .slice Ao20 t108.length co20] 28 (0, 0))) := ⟨by rw [← hq_]; exact (kz BK112.out)⟩; have n7_ : Aside0 (wr.heap[gb120]? = some (.cells #[.string t116, .slice Ao26 t117.length co26] 28 (0, 0))) := ⟨by rw [← hq_]; exact (kz BK120.out)⟩; have n8_ : Aside0 (Below w.heap.size w wr) := ⟨by rw [← hq_]; exact (bq)⟩; clear HO_112001 HO_113001 HO_121001 HO_17 HO_7 BK111 BK112 BK120 HB hq_; have HO_112001 := n0_; have HO_113001 := n1_; have HO_121001 := n2_; have HO_17 := n3_; have HO_7 := n4_; have BK111 := n5_; have BK112 := n6_; have BK120 := n7_; have HB := n8_; clear n0_ n1_ n2_ n3_ n4_ n5_ n6_ n7_ n8_))
                  have n0_ := Aside0.mk (Kd.N_drew HO_7.out)
                  have n1_ := Aside0.mk (Kd.cu_ HO_17.out)
                  have n2_ := Aside0.mk (Kd.as_ HO_112001.out)
                  have n3_ := Aside0.mk (Kd.as_ HO_113001.out)
                  have n4_ := Aside0.mk (Kd.as_ HO_121001.out)
                  have n5_ := Aside0.mk (ay_ BK111.out)
                  have n6_ := Aside0.mk (ay_ BK112.out)
                  have n7_ := Aside0.mk (ay_ BK120.out)
                  have n8_ := Aside0.mk (bD_ HB.out)
                  clear HO_7
                  clear HO_17
                  clear HO_112001
                  clear HO_113001
                  clear HO_121001
                  clear BK111
                  clear BK112
                  clear BK120
                  clear HB
                  have HO_7 := n0_
                  have HO_17 := n1_
                  have HO_112001 := n2_
                  have HO_113001 := n3_
                  have HO_121001 := n4_
                  have BK111 := n5_
                  have BK112 := n6_
                  have BK120 := n7_
                  have HB := n8_
                  clear n0_ n1_ n2_ n3_ n4_ n5_ n6_ n7_ n8_
                  have p138 : 0 ≤ (x23_6 : Int) := of_decide_eq_true (by assumption)
                  have q138 : x23_6 < (t131.length : Int) := of_decide_eq_true (by assumption)
                  obtain ⟨ad138, e138, hx138_0⟩ := Kd.bL_ (Kd.aD_ HO_17.out).2.2 x23_6 p138 q138
                  cases e138
                  replace p138 := eq_true p138
                  replace q138 := eq_true q138
                  have p139 : 0 ≤ (x23_6 : Int) := of_decide_eq_true (by assumption)
                  have q139 : x23_6 < (t131.length : Int) := of_decide_eq_true (by assumption)
                  obtain ⟨ad139, e139, hx139_0⟩ := Kd.bL_ (Kd.aD_ HO_17.out).2.2 x23_6 p139 q139
                  obtain rfl : ad138 = ad139 := (by injection e139)
                  replace p139 := eq_true p139
                  replace q139 := eq_true q139
                  refine cv_ (n := 24) (S := fun w' => w'.cell? (ad138.add (x23_6).toNat) = some (.int .i64 (rd t131 x23_6)) ∧ w'.cell? (ad138.add (x23_6).toNat) = some (.int .i64 (rd t131 x23_6))) (ds := []) #[f_,f_,f_,f_,f_,f_,f_,f_,f_,f_,f_,f_,f_,f_,f_,f_,f_,f_,f_,f_,f_,f_,f_,f_] (by kernel_rfl) rfl rfl ⟨hx138_0, hx139_0⟩ (fun hHeld => ?_); refine bT_ ac_.tab24 ac_.bits24 (fun HT_ HW_ => ?_)
                  generalize wr.drew = w115 at HO_7 HO_17 HO_112001 HO_113001 HO_121001 BK111 BK112 BK120 HB hx138_0 hx139_0 hHeld ⊢
                  refine pu 0 140 #[t_,f_,f_,f_,f_,f_,f_,f_,f_,f_,f_,f_,f_,f_,f_,f_,f_,f_,f_,f_,f_,f_,f_,f_] HT_ ?_
                  refine pu 1 141 #[t_,t_,f_,f_,f_,f_,f_,f_,f_,f_,f_,f_,f_,f_,f_,f_,f_,f_,f_,f_,f_,f_,f_,f_] HT_ ?_
                  refine pu 2 142 #[t_,t_,t_,f_,f_,f_,f_,f_,f_,f_,f_,f_,f_,f_,f_,f_,f_,f_,f_,f_,f_,f_,f_,f_] HT_ ?_
                  refine tk 3 143 #[t_,t_,t_,t_,f_,f_,f_,f_,f_,f_,f_,f_,f_,f_,f_,f_,f_,f_,f_,f_,f_,f_,f_,f_] HT_ HW_ hHeld ?_ (hv := by rintro w' ⟨s0, s1⟩; go_simp; with_reducible rfl)
                  refine pu 4 144 #[t_,t_,t_,t_,t_,f_,f_,f_,f_,f_,f_,f_,f_,f_,f_,f_,f_,f_,f_,f_,f_,f_,f_,f_] HT_ ?_
                  refine pu 5 145 #[t_,t_,t_,t_,t_,t_,f_,f_,f_,f_,f_,f_,f_,f_,f_,f_,f_,f_,f_,f_,f_,f_,f_,f_] HT_ ?_
                  refine pu 6 146 #[t_,t_,t_,t_,t_,t_,t_,f_,f_,f_,f_,f_,f_,f_,f_,f_,f_,f_,f_,f_,f_,f_,f_,f_] HT_ ?_
                  refine pu 7 147 #[t_,t_,t_,t_,t_,t_,t_,t_,f_,f_,f_,f_,f_,f_,f_,f_,f_,f_,f_,f_,f_,f_,f_,f_] HT_ ?_
                  refine pu 8 148 #[t_,t_,t_,t_,t_,t_,t_,t_,t_,f_,f_,f_,f_,f_,f_,f_,f_,f_,f_,f_,f_,f_,f_,f_] HT_ ?_
                  refine pu 10 150 #[t_,t_,t_,t_,t_,t_,t_,t_,t_,f_,t_,f_,f_,f_,f_,f_,f_,f_,f_,f_,f_,f_,f_,f_] HT_ ?_
                  refine pu 11 151 #[t_,t_,t_,t_,t_,t_,t_,t_,t_,f_,t_,t_,f_,f_,f_,f_,f_,f_,f_,f_,f_,f_,f_,f_] HT_ ?_
                  refine tk 9 149 #[t_,t_,t_,t_,t_,t_,t_,t_,t_,t_,t_,t_,f_,f_,f_,f_,f_,f_,f_,f_,f_,f_,f_,f_] HT_ HW_ hHeld ?_ (hv := by rintro w' ⟨s0, s1⟩; go_simp; with_reducible rfl)
                  refine pu 12 152 #[t_,t_,t_,t_,t_,t_,t_,t_,t_,t_,t_,t_,t_,f_,f_,f_,f_,f_,f_,f_,f_,f_,f_,f_] HT_ ?_
                  refine pu 13 153 #[t_,t_,t_,t_,t_,t_,t_,t_,t_,t_,t_,t_,t_,t_,f_,f_,f_,f_,f_,f_,f_,f_,f_,f_] HT_ ?_
                  refine pu 14 154 #[t_,t_,t_,t_,t_,t_,t_,t_,t_,t_,t_,t_,t_,t_,t_,f_,f_,f_,f_,f_,f_,f_,f_,f_] HT_ ?_
                  refine pn 15 155 #[t_,t_,t_,t_,t_,t_,t_,t_,t_,t_,t_,t_,t_,t_,t_,t_,f_,f_,f_,f_,f_,f_,f_,f_] HT_ ?_
                  refine pn 16 156 #[t_,t_,t_,t_,t_,t_,t_,t_,t_,t_,t_,t_,t_,t_,t_,t_,t_,f_,f_,f_,f_,f_,f_,f_] HT_ ?_
                  refine pn 17 157 #[t_,t_,t_,t_,t_,t_,t_,t_,t_,t_,t_,t_,t_,t_,t_,t_,t_,t_,f_,f_,f_,f_,f_,f_] HT_ ?_
                  refine pn 18 158 #[t_,t_,t_,t_,t_,t_,t_,t_,t_,t_,t_,t_,t_,t_,t_,t_,t_,t_,t_,f_,f_,f_,f_,f_] HT_ ?_
                  refine pn 19 159 #[t_,t_,t_,t_,t_,t_,t_,t_,t_,t_,t_,t_,t_,t_,t_,t_,t_,t_,t_,t_,f_,f_,f_,f_] HT_ ?_
                  refine pn 20 160 #[t_,t_,t_,t_,t_,t_,t_,t_,t_,t_,t_,t_,t_,t_,t_,t_,t_,t_,t_,t_,t_,f_,f_,f_] HT_ ?_
                  refine pn 21 161 #[t_,t_,t_,t_,t_,t_,t_,t_,t_,t_,t_,t_,t_,t_,t_,t_,t_,t_,t_,t_,t_,t_,f_,f_] HT_ ?_
                  refine pn 22 162 #[t_,t_,t_,t_,t_,t_,t_,t_,t_,t_,t_,t_,t_,t_,t_,t_,t_,t_,t_,t_,t_,t_,t_,f_] HT_ ?_
                  refine pu 23 163 #[t_,t_,t_,t_,t_,t_,t_,t_,t_,t_,t_,t_,t_,t_,t_,t_,t_,t_,t_,t_,t_,t_,t_,t_] HT_ ?_
                  refine done_ (cl_ HT_.out (by kernel_rfl)) ?_
                  try go_wp2
                  go_meet
                  case rel => exact ⟨_, (true), (by first | rfl | (simp; done) | (simp [*]; done)), H', ⟨by have := HJ2.out; have := HJ11.out; have := HJ34.out; have := HJ41.out; have := HJ98.out; have := HK6.out; first | omega | exact Nat.le_refl _⟩, ⟨nz HO_7.out⟩, ⟨rz HO_17.out⟩, ⟨by (with_reducible repeat (first | apply Kd.ap_ | apply Kd.aq_ | apply Kd.as_)); exact HO_112001.out⟩, ⟨by (with_reducible repeat (first | apply Kd.ap_ | apply Kd.aq_ | apply Kd.as_)); exact HO_113001.out⟩, ⟨by (with_reducible repeat (first | apply Kd.ap_ | apply Kd.aq_ | apply Kd.as_)); exact HO_121001.out⟩, ⟨by (with_reducible repeat (first | refine aK_ ?_ _ | refine ay_ ?_ | refine aI_ ?_ _)); exact BK111.out⟩, ⟨by (with_reducible repeat (first | refine aK_ ?_ _ | refine ay_ ?_ | refine aI_ ?_ _)); exact BK112.out⟩, ⟨by (with_reducible repeat (first | refine aK_ ?_ _ | refine ay_ ?_ | refine aI_ ?_ _)); exact BK120.out⟩, ⟨bq⟩⟩
                 rw [if_pos c112] at H
                 have c112b0 : decide ((rd t131 x23_6) < 0) = true := decide_eq_true c112
                 clear c112
                 have H' := Aside0.mk H
                 clear H
                 try go_wp2
                 (try (rw [ce_ wr]; generalize hq_ : World.drewN wr _ = wr; have n0_ : Aside0 (Kd.Q (Kd.int .i64) 2 wr w.heap.size (fun k_ => (some k_ ≠ (.slice Ao110 t131.length co110 : Value).ownBlock ∧ (some k_ ≠ (.slice Ao20 t108.length co20 : Value).ownBlock ∧ some k_ ≠ (.slice Ao26 t117.length co26 : Value).ownBlock))) (.slice Ao18 t104.length co18) t104) := ⟨by rw [← hq_]; exact (by (with_reducible repeat (first | apply Kd.ap_ | apply Kd.aq_ | apply Kd.as_)); exact HO_112001.out)⟩; have n1_ : Aside0 (Kd.Q (Kd.int .i64) 2 wr w.heap.size (fun k_ => (some k_ ≠ (.slice Ao110 t131.length co110 : Value).ownBlock ∧ (some k_ ≠ (.slice Ao18 t104.length co18 : Value).ownBlock ∧ some k_ ≠ (.slice Ao26 t117.length co26 : Value).ownBlock))) (.slice Ao20 t108.length co20) t108) := ⟨by rw [← hq_]; exact (by (with_reducible repeat (first | apply Kd.ap_ | apply Kd.aq_ | apply Kd.as_)); exact HO_113001.out)⟩; have n2_ : Aside0 (Kd.Q (Kd.int .i64) 2 wr w.heap.size (fun k_ => (some k_ ≠ (.slice Ao110 t131.length co110 : Value).ownBlock ∧ (some k_ ≠ (.slice Ao18 t104.length co18 : Value).ownBlock ∧ some k_ ≠ (.slice Ao20 t108.length co20 : Value).ownBlock))) (.slice Ao26 t117.length co26) t117) := ⟨by rw [← hq_]; exact (by (with_reducible repeat (first | apply Kd.ap_ | apply Kd.aq_ | apply Kd.as_)); exact HO_121001.out)⟩; have n3_ : Aside0 (Kd.R (Kd.int .i64) 2 wr w.heap.size (fun k_ => (some k_ ≠ (.slice Ao18 t104.length co18 : Value).ownBlock ∧ (some k_ ≠ (.slice Ao20 t108.length co20 : Value).ownBlock ∧ some k_ ≠ (.slice Ao26 t117.length co26 : Value).ownBlock))) (.slice Ao110 t131.length co110) t131) := ⟨by rw [← hq_]; exact (rz HO_17.out)⟩; have n4_ : Aside0 (Kd.N k28 28 wr w.heap.size (fun k_ => (some k_ ≠ (.slice Ao110 t131.length co110 : Value).ownBlock ∧ (some k_ ≠ (.slice Ao18 t104.length co18 : Value).ownBlock ∧ (some k_ ≠ (.slice Ao20 t108.length co20 : Value).ownBlock ∧ (some k_ ≠ (.slice Ao26 t117.length co26 : Value).ownBlock ∧ (k_ ≠ gb111 ∧ (k_ ≠ gb112 ∧ k_ ≠ gb120))))))) (.slice Ao95 t113.length co95) t113) := ⟨by rw [← hq_]; exact (nz HO_7.out)⟩; have n5_ : Aside0 (wr.heap[gb111]? = some (.cells #[.string t103, .slice Ao18 t104.length co18] 28 (0, 0))) := ⟨by rw [← hq_]; exact (kz BK111.out)⟩; have n6_ : Aside0 (wr.heap[gb112]? = some (.cells #[.string t107, .slice Ao20 t108.length co20] 28 (0, 0))) := ⟨by rw [← hq_]; exact (kz BK112.out)⟩; have n7_ : Aside0 (wr.heap[gb120]? = some (.cells #[.string t116, .slice Ao26 t117.length co26] 28 (0, 0))) := ⟨by rw [← hq_]; exact (kz BK120.out)⟩; have n8_ : Aside0 (Below w.heap.size w wr) := ⟨by rw [← hq_]; exact (bq)⟩; clear HO_112001 HO_113001 HO_121001 HO_17 HO_7 BK111 BK112 BK120 HB hq_; have HO_112001 := n0_; have HO_113001 := n1_; have HO_121001 := n2_; have HO_17 := n3_; have HO_7 := n4_; have BK111 := n5_; have BK112 := n6_; have BK120 := n7_; have HB := n8_; clear n0_ n1_ n2_ n3_ n4_ n5_ n6_ n7_ n8_))
                 have n0_ := Aside0.mk (Kd.N_drew HO_7.out)
                 have n1_ := Aside0.mk (Kd.cu_ HO_17.out)
                 have n2_ := Aside0.mk (Kd.as_ HO_112001.out)
                 have n3_ := Aside0.mk (Kd.as_ HO_113001.out)
                 have n4_ := Aside0.mk (Kd.as_ HO_121001.out)
                 have n5_ := Aside0.mk (ay_ BK111.out)
                 have n6_ := Aside0.mk (ay_ BK112.out)
                 have n7_ := Aside0.mk (ay_ BK120.out)
                 have n8_ := Aside0.mk (bD_ HB.out)
                 clear HO_7
                 clear HO_17
                 clear HO_112001
                 clear HO_113001
                 clear HO_121001
                 clear BK111
                 clear BK112
                 clear BK120
                 clear HB
                 have HO_7 := n0_
                 have HO_17 := n1_
                 have HO_112001 := n2_
                 have HO_113001 := n3_
                 have HO_121001 := n4_
                 have BK111 := n5_
                 have BK112 := n6_
                 have BK120 := n7_
                 have HB := n8_
                 clear n0_ n1_ n2_ n3_ n4_ n5_ n6_ n7_ n8_
                 have p138 : 0 ≤ (x23_6 : Int) := of_decide_eq_true (by assumption)
                 have q138 : x23_6 < (t131.length : Int) := of_decide_eq_true (by assumption)
                 obtain ⟨ad138, e138, hx138_0⟩ := Kd.bL_ (Kd.aD_ HO_17.out).2.2 x23_6 p138 q138
                 cases e138
                 replace p138 := eq_true p138
                 replace q138 := eq_true q138
                 refine cv_ (n := 24) (S := fun w' => w'.cell? (ad138.add (x23_6).toNat) = some (.int .i64 (rd t131 x23_6))) (ds := []) #[f_,f_,f_,f_,f_,f_,f_,f_,f_,f_,f_,f_,f_,f_,f_,f_,f_,f_,f_,f_,f_,f_,f_,f_] (by kernel_rfl) rfl rfl (hx138_0) (fun hHeld => ?_); refine bT_ ac_.tab24 ac_.bits24 (fun HT_ HW_ => ?_)
                 generalize wr.drew = w113 at HO_7 HO_17 HO_112001 HO_113001 HO_121001 BK111 BK112 BK120 HB hx138_0 hHeld ⊢
                 refine pu 0 140 #[t_,f_,f_,f_,f_,f_,f_,f_,f_,f_,f_,f_,f_,f_,f_,f_,f_,f_,f_,f_,f_,f_,f_,f_] HT_ ?_
                 refine pu 1 141 #[t_,t_,f_,f_,f_,f_,f_,f_,f_,f_,f_,f_,f_,f_,f_,f_,f_,f_,f_,f_,f_,f_,f_,f_] HT_ ?_
                 refine pu 2 142 #[t_,t_,t_,f_,f_,f_,f_,f_,f_,f_,f_,f_,f_,f_,f_,f_,f_,f_,f_,f_,f_,f_,f_,f_] HT_ ?_
                 refine tk 3 143 #[t_,t_,t_,t_,f_,f_,f_,f_,f_,f_,f_,f_,f_,f_,f_,f_,f_,f_,f_,f_,f_,f_,f_,f_] HT_ HW_ hHeld ?_ (hv := by intro w' s0; go_simp; with_reducible rfl)
                 refine pu 4 144 #[t_,t_,t_,t_,t_,f_,f_,f_,f_,f_,f_,f_,f_,f_,f_,f_,f_,f_,f_,f_,f_,f_,f_,f_] HT_ ?_
                 refine pu 5 145 #[t_,t_,t_,t_,t_,t_,f_,f_,f_,f_,f_,f_,f_,f_,f_,f_,f_,f_,f_,f_,f_,f_,f_,f_] HT_ ?_
                 refine pn 6 146 #[t_,t_,t_,t_,t_,t_,t_,f_,f_,f_,f_,f_,f_,f_,f_,f_,f_,f_,f_,f_,f_,f_,f_,f_] HT_ ?_
                 refine pn 7 147 #[t_,t_,t_,t_,t_,t_,t_,t_,f_,f_,f_,f_,f_,f_,f_,f_,f_,f_,f_,f_,f_,f_,f_,f_] HT_ ?_
                 refine pn 8 148 #[t_,t_,t_,t_,t_,t_,t_,t_,t_,f_,f_,f_,f_,f_,f_,f_,f_,f_,f_,f_,f_,f_,f_,f_] HT_ ?_
                 refine pn 9 149 #[t_,t_,t_,t_,t_,t_,t_,t_,t_,t_,f_,f_,f_,f_,f_,f_,f_,f_,f_,f_,f_,f_,f_,f_] HT_ ?_
                 refine pn 10 150 #[t_,t_,t_,t_,t_,t_,t_,t_,t_,t_,t_,f_,f_,f_,f_,f_,f_,f_,f_,f_,f_,f_,f_,f_] HT_ ?_
                 refine pn 11 151 #[t_,t_,t_,t_,t_,t_,t_,t_,t_,t_,t_,t_,f_,f_,f_,f_,f_,f_,f_,f_,f_,f_,f_,f_] HT_ ?_
                 refine pn 12 152 #[t_,t_,t_,t_,t_,t_,t_,t_,t_,t_,t_,t_,t_,f_,f_,f_,f_,f_,f_,f_,f_,f_,f_,f_] HT_ ?_
                 refine pu 13 153 #[t_,t_,t_,t_,t_,t_,t_,t_,t_,t_,t_,t_,t_,t_,f_,f_,f_,f_,f_,f_,f_,f_,f_,f_] HT_ ?_
                 refine pu 14 154 #[t_,t_,t_,t_,t_,t_,t_,t_,t_,t_,t_,t_,t_,t_,t_,f_,f_,f_,f_,f_,f_,f_,f_,f_] HT_ ?_
                 refine pn 15 155 #[t_,t_,t_,t_,t_,t_,t_,t_,t_,t_,t_,t_,t_,t_,t_,t_,f_,f_,f_,f_,f_,f_,f_,f_] HT_ ?_
                 refine pn 16 156 #[t_,t_,t_,t_,t_,t_,t_,t_,t_,t_,t_,t_,t_,t_,t_,t_,t_,f_,f_,f_,f_,f_,f_,f_] HT_ ?_
                 refine pn 17 157 #[t_,t_,t_,t_,t_,t_,t_,t_,t_,t_,t_,t_,t_,t_,t_,t_,t_,t_,f_,f_,f_,f_,f_,f_] HT_ ?_
                 refine pn 18 158 #[t_,t_,t_,t_,t_,t_,t_,t_,t_,t_,t_,t_,t_,t_,t_,t_,t_,t_,t_,f_,f_,f_,f_,f_] HT_ ?_
                 refine pn 19 159 #[t_,t_,t_,t_,t_,t_,t_,t_,t_,t_,t_,t_,t_,t_,t_,t_,t_,t_,t_,t_,f_,f_,f_,f_] HT_ ?_
                 refine pn 20 160 #[t_,t_,t_,t_,t_,t_,t_,t_,t_,t_,t_,t_,t_,t_,t_,t_,t_,t_,t_,t_,t_,f_,f_,f_] HT_ ?_
                 refine pn 21 161 #[t_,t_,t_,t_,t_,t_,t_,t_,t_,t_,t_,t_,t_,t_,t_,t_,t_,t_,t_,t_,t_,t_,f_,f_] HT_ ?_
                 refine pn 22 162 #[t_,t_,t_,t_,t_,t_,t_,t_,t_,t_,t_,t_,t_,t_,t_,t_,t_,t_,t_,t_,t_,t_,t_,f_] HT_ ?_
                 refine pu 23 163 #[t_,t_,t_,t_,t_,t_,t_,t_,t_,t_,t_,t_,t_,t_,t_,t_,t_,t_,t_,t_,t_,t_,t_,t_] HT_ ?_
                 refine done_ (cl_ HT_.out (by kernel_rfl)) ?_
                 try go_wp2
                 go_meet
                 case rel => exact ⟨_, (true), (by first | rfl | (simp; done) | (simp [*]; done)), H', ⟨by have := HJ2.out; have := HJ11.out; have := HJ34.out; have := HJ41.out; have := HJ98.out; have := HK6.out; first | omega | exact Nat.le_refl _⟩, ⟨nz HO_7.out⟩, ⟨rz HO_17.out⟩, ⟨by (with_reducible repeat (first | apply Kd.ap_ | apply Kd.aq_ | apply Kd.as_)); exact HO_112001.out⟩, ⟨by (with_reducible repeat (first | apply Kd.ap_ | apply Kd.aq_ | apply Kd.as_)); exact HO_113001.out⟩, ⟨by (with_reducible repeat (first | apply Kd.ap_ | apply Kd.aq_ | apply Kd.as_)); exact HO_121001.out⟩, ⟨by (with_reducible repeat (first | refine aK_ ?_ _ | refine ay_ ?_ | refine aI_ ?_ _)); exact BK111.out⟩, ⟨by (with_reducible repeat (first | refine aK_ ?_ _ | refine ay_ ?_ | refine aI_ ?_ _)); exact BK112.out⟩, ⟨by (with_reducible repeat (first | refine aK_ ?_ _ | refine ay_ ?_ | refine aI_ ?_ _)); exact BK120.out⟩, ⟨bq⟩⟩
                case rest => as_aux_lemma =>
                 clear HC109
                 obtain ⟨kq, x163_108, rfl, HA, HJ108, HO_7, HO_17, HO_112001, HO_113001, HO_121001, BK111, BK112, BK120, HB⟩ := hcut
                 cases kq with
                 | zero => exact absurd HA.out (by simp [ac_.j6])
                 | succ kj108 =>
                  have H := HA.out
                  clear HA
                  simp only [ac_.j6] at H
                  by_cases c121 : x163_108 = true
                  rotate_left
                  ·replace c121 := Bool.eq_false_iff.mpr c121
                   subst c121
                   have H1 : (if 0 ≤ x23_6 then (if x23_6 < (t131.length : Int) then (if 0 ≤ (rd t131 x23_6) then (if (rd t131 x23_6) < (t113.length : Int) then ((ar_.f kj108 ((af_ t113 (rd t131 x23_6)).f0) ((af_ t113 (rd t131 x23_6)).f1) t116 t117).bind fun bt149 => (if bt149.2 = 0 then (if bt149.1 < x22_6 then (some false) else (if x23_6 = 0 then (if bt149.1 = t136 then (if (rd t131 x23_6) = t135 then (ac_.l0 kj108 t113 t131 t135 t136 bt149.1 (wrap64 (x23_6 + 1)) t116 t117) else (some false)) else (some false)) else (ac_.l0 kj108 t113 t131 t135 t136 bt149.1 (wrap64 (x23_6 + 1)) t116 t117))) else (some false))) else (none)) else (none)) else (none)) else (none)) = some r := by rw [if_neg (show ¬ (false = true) by decide)] at H; exact H
                   clear H
                   have H := H1
                   clear H1
                   by_cases c122 : 0 ≤ x23_6
                   rotate_left
                   ·rw [if_neg c122] at H
                    exact absurd H (by simp)
                   rw [if_pos c122] at H
                   have c122b0 : decide (0 ≤ x23_6) = true := decide_eq_true c122
                   clear c122
                   by_cases c123 : x23_6 < (t131.length : Int)
                   rotate_left
                   ·rw [if_neg c123] at H
                    exact absurd H (by simp)
                   rw [if_pos c123] at H
                   have c123b0 : decide (x23_6 < (t131.length : Int)) = true := decide_eq_true c123
                   clear c123
                   by_cases c124 : 0 ≤ (rd t131 x23_6)
                   rotate_left
                   ·rw [if_neg c124] at H
                    exact absurd H (by simp)
                   rw [if_pos c124] at H
                   have c124b0 : decide (0 ≤ (rd t131 x23_6)) = true := decide_eq_true c124
                   clear c124
                   by_cases c125 : (rd t131 x23_6) < (t113.length : Int)
                   rotate_left
                   ·rw [if_neg c125] at H
                    exact absurd H (by simp)
                   rw [if_pos c125] at H
                   have c125b0 : decide ((rd t131 x23_6) < (t113.length : Int)) = true := decide_eq_true c125
                   clear c125
                   replace H := Option.bind_eq_some_iff.mp H
                   obtain ⟨⟨t149, t150⟩, A1260, H⟩ := H
                   (try dsimp only at H)
                   have A126 := Aside0.mk A1260
                   clear A1260
                   by_cases c127 : t150 = 0
                   rotate_left
                   ·rw [if_neg c127] at H
                    have c127b0 : (t150 == 0) = false := beq_eq_false_iff_ne.mpr c127
                    have c127b1 : (t150 != 0) = true := bne_iff_ne.mpr c127
                    obtain rfl := Option.some.inj H
                    try go_wp2
                    (try (rw [ce_ wc]; generalize hq_ : World.drewN wc _ = wc; have n0_ : Aside0 (Kd.Q (Kd.int .i64) 2 wc w.heap.size (fun k_ => (some k_ ≠ (.slice Ao110 t131.length co110 : Value).ownBlock ∧ (some k_ ≠ (.slice Ao20 t108.length co20 : Value).ownBlock ∧ some k_ ≠ (.slice Ao26 t117.length co26 : Value).ownBlock))) (.slice Ao18 t104.length co18) t104) := ⟨by rw [← hq_]; exact (by (with_reducible repeat (first | apply Kd.ap_ | apply Kd.aq_ | apply Kd.as_)); exact HO_112001.out)⟩; have n1_ : Aside0 (Kd.Q (Kd.int .i64) 2 wc w.heap.size (fun k_ => (some k_ ≠ (.slice Ao110 t131.length co110 : Value).ownBlock ∧ (some k_ ≠ (.slice Ao18 t104.length co18 : Value).ownBlock ∧ some k_ ≠ (.slice Ao26 t117.length co26 : Value).ownBlock))) (.slice Ao20 t108.length co20) t108) := ⟨by rw [← hq_]; exact (by (with_reducible repeat (first | apply Kd.ap_ | apply Kd.aq_ | apply Kd.as_)); exact HO_113001.out)⟩; have n2_ : Aside0 (Kd.Q (Kd.int .i64) 2 wc w.heap.size (fun k_ => (some k_ ≠ (.slice Ao110 t131.length co110 : Value).ownBlock ∧ (some k_ ≠ (.slice Ao18 t104.length co18 : Value).ownBlock ∧ some k_ ≠ (.slice Ao20 t108.length co20 : Value).ownBlock))) (.slice Ao26 t117.length co26) t117) := ⟨by rw [← hq_]; exact (by (with_reducible repeat (first | apply Kd.ap_ | apply Kd.aq_ | apply Kd.as_)); exact HO_121001.out)⟩; have n3_ : Aside0 (Kd.R (Kd.int .i64) 2 wc w.heap.size (fun k_ => (some k_ ≠ (.slice Ao18 t104.length co18 : Value).ownBlock ∧ (some k_ ≠ (.slice Ao20 t108.length co20 : Value).ownBlock ∧ some k_ ≠ (.slice Ao26 t117.length co26 : Value).ownBlock))) (.slice Ao110 t131.length co110) t131) := ⟨by rw [← hq_]; exact (rz HO_17.out)⟩; have n4_ : Aside0 (Kd.N k28 28 wc w.heap.size (fun k_ => (some k_ ≠ (.slice Ao110 t131.length co110 : Value).ownBlock ∧ (some k_ ≠ (.slice Ao18 t104.length co18 : Value).ownBlock ∧ (some k_ ≠ (.slice Ao20 t108.length co20 : Value).ownBlock ∧ (some k_ ≠ (.slice Ao26 t117.length co26 : Value).ownBlock ∧ (k_ ≠ gb111 ∧ (k_ ≠ gb112 ∧ k_ ≠ gb120))))))) (.slice Ao95 t113.length co95) t113) := ⟨by rw [← hq_]; exact (nz HO_7.out)⟩; have n5_ : Aside0 (wc.heap[gb111]? = some (.cells #[.string t103, .slice Ao18 t104.length co18] 28 (0, 0))) := ⟨by rw [← hq_]; exact (kz BK111.out)⟩; have n6_ : Aside0 (wc.heap[gb112]? = some (.cells #[.string t107, .slice Ao20 t108.length co20] 28 (0, 0))) := ⟨by rw [← hq_]; exact (kz BK112.out)⟩; have n7_ : Aside0 (wc.heap[gb120]? = some (.cells #[.string t116, .slice Ao26 t117.length co26] 28 (0, 0))) := ⟨by rw [← hq_]; exact (kz BK120.out)⟩; have n8_ : Aside0 (Below w.heap.size w wc) := ⟨by rw [← hq_]; exact (bq)⟩; clear HO_112001 HO_113001 HO_121001 HO_17 HO_7 BK111 BK112 BK120 HB hq_; have HO_112001 := n0_; have HO_113001 := n1_; have HO_121001 := n2_; have HO_17 := n3_; have HO_7 := n4_; have BK111 := n5_; have BK112 := n6_; have BK120 := n7_; have HB := n8_; clear n0_ n1_ n2_ n3_ n4_ n5_ n6_ n7_ n8_))
                    have n0_ := Aside0.mk (Kd.N_drew HO_7.out)
                    have n1_ := Aside0.mk (Kd.cu_ HO_17.out)
                    have n2_ := Aside0.mk (Kd.as_ HO_112001.out)
                    have n3_ := Aside0.mk (Kd.as_ HO_113001.out)
                    have n4_ := Aside0.mk (Kd.as_ HO_121001.out)
                    have n5_ := Aside0.mk (ay_ BK111.out)
                    have n6_ := Aside0.mk (ay_ BK112.out)
                    have n7_ := Aside0.mk (ay_ BK120.out)
                    have n8_ := Aside0.mk (bD_ HB.out)
                    clear HO_7
                    clear HO_17
                    clear HO_112001
                    clear HO_113001
                    clear HO_121001
                    clear BK111
                    clear BK112
                    clear BK120
                    clear HB
                    have HO_7 := n0_
                    have HO_17 := n1_
                    have HO_112001 := n2_
                    have HO_113001 := n3_
                    have HO_121001 := n4_
                    have BK111 := n5_
                    have BK112 := n6_
                    have BK120 := n7_
                    have HB := n8_
                    clear n0_ n1_ n2_ n3_ n4_ n5_ n6_ n7_ n8_
                    have p147 : 0 ≤ (x23_6 : Int) := of_decide_eq_true (by assumption)
                    have q147 : x23_6 < (t131.length : Int) := of_decide_eq_true (by assumption)
                    obtain ⟨ad147, e147, hx147_0⟩ := Kd.bL_ (Kd.aD_ HO_17.out).2.2 x23_6 p147 q147
                    cases e147
                    replace p147 := eq_true p147
                    replace q147 := eq_true q147
                    have p148 : 0 ≤ ((rd t131 x23_6) : Int) := of_decide_eq_true (by assumption)
                    have q148 : (rd t131 x23_6) < (t113.length : Int) := of_decide_eq_true (by assumption)
                    obtain ⟨ad148, A148_1, c148_1, e148, hx148_0, hx148_1, hl148_1, hi148_1⟩ := bY_ (Kd.ck_ HO_7.out).2.2 (rd t131 x23_6) p148 q148
                    cases e148
                    obtain ⟨ce148, hce148, hMe148, hcc148⟩ := Kd.N_get HO_7.out z28 (rd t131 x23_6) p148 (by first | exact q148 | exact of_decide_eq_true (by assumption) | (have e_ := (Kd.ck_ HO_7.out).1; omega))
                    obtain ⟨ua148_1, uc148_1, rfl, ul148_1, ge148_1⟩ := k28_openF hMe148
                    have hv148_1 := hcc148 1 _ rfl
                    rw [add_field _ _ 1 (by omega)] at hv148_1
                    replace hv148_1 := Option.some.inj (hv148_1.symm.trans hx148_1)
                    injection hv148_1 with hva_ hvn_ hvc_
                    rw [hva_] at ge148_1
                    rw [hvc_] at ul148_1
                    have HL148_1 := Aside0.mk (show Kd.V (Kd.int .i64) 2 _ w.heap.size _ _ ((af_ t113 (rd t131 x23_6)).f1) from Kd.V_mk ul148_1 ge148_1)
                    clear hva_ hvn_ hvc_ ge148_1 ul148_1
                    clear hcc148 hce148
                    have HR148_1 := Aside0.mk hi148_1
                    have HC148_1 := Aside0.mk hl148_1
                    clear hi148_1 hl148_1
                    replace p148 := eq_true p148
                    replace q148 := eq_true q148
                    refine cv_ (n := 14) (S := fun w' => w'.cell? ⟨gb120, 0, none⟩ = some (.string t116) ∧ w'.cell? ⟨gb120, 1, none⟩ = some (.slice Ao26 t117.length co26) ∧ w'.cell? (ad147.add (x23_6).toNat) = some (.int .i64 (rd t131 x23_6)) ∧ w'.cell? (ad148.add (((rd t131 x23_6)).toNat * 2)) = some (.string ((af_ t113 (rd t131 x23_6)).f0)) ∧ w'.cell? ⟨(ad148.add (((rd t131 x23_6)).toNat * 2)).block, (ad148.add (((rd t131 x23_6)).toNat * 2)).off + 1, none⟩ = some (.slice A148_1 ((af_ t113 (rd t131 x23_6)).f1).length c148_1)) (ds := []) #[f_,f_,f_,f_,f_,f_,f_,f_,f_,f_,f_,f_,f_,f_] (by kernel_rfl) rfl rfl ⟨(aM_ BK120.out 0).trans rfl, (aM_ BK120.out 1).trans rfl, hx147_0, hx148_0, hx148_1⟩ (fun hHeld => ?_); refine bT_ ac_.tab26 ac_.bits26 (fun HT_ HW_ => ?_)
                    generalize wc.drew = w141 at HO_7 HO_17 HO_112001 HO_113001 HO_121001 BK111 BK112 BK120 HB HL148_1 HR148_1 hx147_0 hx148_0 hx148_1 hHeld ⊢
                    refine pu 0 165 #[t_,f_,f_,f_,f_,f_,f_,f_,f_,f_,f_,f_,f_,f_] HT_ ?_
                    refine pu 1 166 #[t_,t_,f_,f_,f_,f_,f_,f_,f_,f_,f_,f_,f_,f_] HT_ ?_
                    refine pu 2 167 #[t_,t_,t_,f_,f_,f_,f_,f_,f_,f_,f_,f_,f_,f_] HT_ ?_
                    refine pu 3 168 #[t_,t_,t_,t_,f_,f_,f_,f_,f_,f_,f_,f_,f_,f_] HT_ ?_
                    refine tk 4 169 #[t_,t_,t_,t_,t_,f_,f_,f_,f_,f_,f_,f_,f_,f_] HT_ HW_ hHeld ?_ (hv := by rintro w' ⟨s0, s1, s2, s3, s4⟩; go_simp; with_reducible rfl)
                    refine pu 5 170 #[t_,t_,t_,t_,t_,t_,f_,f_,f_,f_,f_,f_,f_,f_] HT_ ?_
                    refine tk 6 171 #[t_,t_,t_,t_,t_,t_,t_,f_,f_,f_,f_,f_,f_,f_] HT_ HW_ hHeld ?_ (hv := by rintro w' ⟨s0, s1, s2, s3, s4⟩; go_simp; with_reducible rfl)
                    refine tk 7 172 #[t_,t_,t_,t_,t_,t_,t_,t_,f_,f_,f_,f_,f_,f_] HT_ HW_ hHeld ?_ (hv := by rintro w' ⟨s0, s1, s2, s3, s4⟩; go_simp; with_reducible rfl)
                    refine one_ (i := 8) (N := some 173) #[t_,t_,t_,t_,t_,t_,t_,t_,t_,f_,f_,f_,f_,f_] rfl rfl (cs_ HT_.out (by kernel_rfl)) (by decide) (fun K hK => ?_)
                    (first | refine goes_ Try.func15 (by kernel_rfl) rfl #[.agg #[.string ((af_ t113 (rd t131 x23_6)).f0), .slice A148_1 ((af_ t113 (rd t131 x23_6)).f1).length c148_1], .agg #[.string t116, .slice Ao26 t117.length co26]] (by rfl) rfl rfl (by first | rfl | (simp only [lma_, lmc_, lmn_]; first | done | rfl)) ?_ | refine RPW.cC_ Try.func15 (by kernel_rfl) rfl #[.agg #[.string ((af_ t113 (rd t131 x23_6)).f0), .slice A148_1 ((af_ t113 (rd t131 x23_6)).f1).length c148_1], .agg #[.string t116, .slice Ao26 t117.length co26]] (by rfl) rfl rfl rfl (by first | rfl | (simp only [lma_, lmc_, lmn_]; first | done | rfl)) ?_ | refine RPW.cB_ Try.func15 (by kernel_rfl) rfl #[.agg #[.string ((af_ t113 (rd t131 x23_6)).f0), .slice A148_1 ((af_ t113 (rd t131 x23_6)).f1).length c148_1], .agg #[.string t116, .slice Ao26 t117.length co26]] (by rfl) rfl rfl rfl (by first | rfl | (simp only [lma_, lmc_, lmn_]; first | done | rfl)) ?_)
                    with_reducible refine (ar_.calls kj108 ((af_ t113 (rd t131 x23_6)).f0) _ _ ((af_ t113 (rd t131 x23_6)).f1) t116 _ _ t117 t149 t150 _ ?side1 ?side2 ?side3 ?side4 A126.out).mono ?_
                    (case side1 => repeat (first | exact (by repeat (first | (with_reducible exact HR148_1.out) | (with_reducible first | refine Kd.bn_ ?_ _ | refine Kd.bm_ ?_ _ | refine Kd.bE_ ?_) | exact HR148_1.out)) | (with_reducible first | refine Kd.bn_ ?_ _ | refine Kd.bm_ ?_ _ | refine Kd.bE_ ?_)))
                    (case side2 => exact HC148_1.out)
                    (case side3 => exact cz (Kd.aN_ HO_121001.out).2.2)
                    (case side4 => exact (Kd.aN_ HO_121001.out).2.1)
                    rintro e w142 ⟨rfl, hb⟩
                    have HS2_ := (hb.cell (bl_ _ _ (hHeld.2.2.1))).trans (hHeld.2.2.1)
                    have HS3_ := (hb.cell (bl_ _ _ (hHeld.2.2.2.1))).trans (hHeld.2.2.2.1)
                    have HS4_ := (hb.cell (bl_ _ _ (hHeld.2.2.2.2))).trans (hHeld.2.2.2.2)
                    refine ⟨_, rfl, ?_⟩
                    have n0_ := Aside0.mk (Kd.cd_ (nz HO_7.out) hb)
                    have n1_ := Aside0.mk (Kd.cc_ (rz HO_17.out) hb)
                    have n2_ := Aside0.mk (Kd.aU_ (by (with_reducible repeat (first | apply Kd.ap_ | apply Kd.aq_ | apply Kd.as_)); exact HO_112001.out) hb)
                    have n3_ := Aside0.mk (Kd.aU_ (by (with_reducible repeat (first | apply Kd.ap_ | apply Kd.aq_ | apply Kd.as_)); exact HO_113001.out) hb)
                    have n4_ := Aside0.mk (Kd.aU_ (by (with_reducible repeat (first | apply Kd.ap_ | apply Kd.aq_ | apply Kd.as_)); exact HO_121001.out) hb)
                    have n5_ := Aside0.mk (Kd.V_below (vz HL148_1.out) hb)
                    have n6_ := Aside0.mk (ag_ (kz BK111.out) hb)
                    have n7_ := Aside0.mk (ag_ (kz BK112.out) hb)
                    have n8_ := Aside0.mk (ag_ (kz BK120.out) hb)
                    have n9_ := Aside0.mk (Kd.bi_ (by repeat (first | (with_reducible exact HR148_1.out) | (with_reducible first | refine Kd.bn_ ?_ _ | refine Kd.bm_ ?_ _ | refine Kd.bE_ ?_) | exact HR148_1.out)) hb)
                    have n10_ := Aside0.mk (am_ (bq) hb)
                    clear HO_7
                    clear HO_17
                    clear HO_112001
                    clear HO_113001
                    clear HO_121001
                    clear HL148_1
                    clear BK111
                    clear BK112
                    clear BK120
                    clear HR148_1
                    clear HB
                    have HO_7 := n0_
                    have HO_17 := n1_
                    have HO_112001 := n2_
                    have HO_113001 := n3_
                    have HO_121001 := n4_
                    have HL148_1 := n5_
                    have BK111 := n6_
                    have BK112 := n7_
                    have BK120 := n8_
                    have HR148_1 := n9_
                    have HB := n10_
                    clear n0_ n1_ n2_ n3_ n4_ n5_ n6_ n7_ n8_ n9_ n10_
                    (try clear hb)
                    refine hK.out _ _ ⟨(aM_ BK120.out 0).trans rfl, (aM_ BK120.out 1).trans rfl, HS2_, HS3_, HS4_⟩ (fun hHeld => ?_)
                    clear hK K
                    refine norm_ (a' := ?_) ?_ ?_
                    rotate_left
                    ·show Act.put _ (some 173) _ = _
                     simp only [Act.put, lsa_, ls0_, ls1_, i64_w, i32_w]
                     rfl
                    refine pu 9 164 #[t_,t_,t_,t_,t_,t_,t_,t_,t_,t_,f_,f_,f_,f_] HT_ ?_
                    refine pu 10 174 #[t_,t_,t_,t_,t_,t_,t_,t_,t_,t_,t_,f_,f_,f_] HT_ ?_
                    refine pu 11 175 #[t_,t_,t_,t_,t_,t_,t_,t_,t_,t_,t_,t_,f_,f_] HT_ ?_
                    refine pu 12 24 #[t_,t_,t_,t_,t_,t_,t_,t_,t_,t_,t_,t_,t_,f_] HT_ ?_
                    refine pu 13 25 #[t_,t_,t_,t_,t_,t_,t_,t_,t_,t_,t_,t_,t_,t_] HT_ ?_
                    refine done_ (cl_ HT_.out (by kernel_rfl)) ?_
                    try go_wp2
                    go_ret
                    exact ⟨by first | rfl | (simp [*, aH_, aG_] <;> rfl), bq⟩
                   rw [if_pos c127] at H
                   have c127b0 : (t150 == 0) = true := beq_iff_eq.mpr c127
                   have c127b1 : (t150 != 0) = false := bne_eq_false_iff_eq.mpr c127
                   clear c127
                   by_cases c128 : t149 < x22_6
                   rotate_left
                   ·rw [if_neg c128] at H
                    have c128b0 : decide (t149 < x22_6) = false := decide_eq_false c128
                    clear c128
                    by_cases c131 : x23_6 = 0
                    rotate_left
                    ·rw [if_neg c131] at H
                     have c131b0 : (x23_6 == 0) = false := beq_eq_false_iff_ne.mpr c131
                     have c131b1 : (x23_6 != 0) = true := bne_iff_ne.mpr c131
                     have H' := Aside0.mk H
                     clear H
                     try go_wp2
                     (try (rw [ce_ wc]; generalize hq_ : World.drewN wc _ = wc; have n0_ : Aside0 (Kd.Q (Kd.int .i64) 2 wc w.heap.size (fun k_ => (some k_ ≠ (.slice Ao110 t131.length co110 : Value).ownBlock ∧ (some k_ ≠ (.slice Ao20 t108.length co20 : Value).ownBlock ∧ some k_ ≠ (.slice Ao26 t117.length co26 : Value).ownBlock))) (.slice Ao18 t104.length co18) t104) := ⟨by rw [← hq_]; exact (by (with_reducible repeat (first | apply Kd.ap_ | apply Kd.aq_ | apply Kd.as_)); exact HO_112001.out)⟩; have n1_ : Aside0 (Kd.Q (Kd.int .i64) 2 wc w.heap.size (fun k_ => (some k_ ≠ (.slice Ao110 t131.length co110 : Value).ownBlock ∧ (some k_ ≠ (.slice Ao18 t104.length co18 : Value).ownBlock ∧ some k_ ≠ (.slice Ao26 t117.length co26 : Value).ownBlock))) (.slice Ao20 t108.length co20) t108) := ⟨by rw [← hq_]; exact (by (with_reducible repeat (first | apply Kd.ap_ | apply Kd.aq_ | apply Kd.as_)); exact HO_113001.out)⟩; have n2_ : Aside0 (Kd.Q (Kd.int .i64) 2 wc w.heap.size (fun k_ => (some k_ ≠ (.slice Ao110 t131.length co110 : Value).ownBlock ∧ (some k_ ≠ (.slice Ao18 t104.length co18 : Value).ownBlock ∧ some k_ ≠ (.slice Ao20 t108.length co20 : Value).ownBlock))) (.slice Ao26 t117.length co26) t117) := ⟨by rw [← hq_]; exact (by (with_reducible repeat (first | apply Kd.ap_ | apply Kd.aq_ | apply Kd.as_)); exact HO_121001.out)⟩; have n3_ : Aside0 (Kd.R (Kd.int .i64) 2 wc w.heap.size (fun k_ => (some k_ ≠ (.slice Ao18 t104.length co18 : Value).ownBlock ∧ (some k_ ≠ (.slice Ao20 t108.length co20 : Value).ownBlock ∧ some k_ ≠ (.slice Ao26 t117.length co26 : Value).ownBlock))) (.slice Ao110 t131.length co110) t131) := ⟨by rw [← hq_]; exact (rz HO_17.out)⟩; have n4_ : Aside0 (Kd.N k28 28 wc w.heap.size (fun k_ => (some k_ ≠ (.slice Ao110 t131.length co110 : Value).ownBlock ∧ (some k_ ≠ (.slice Ao18 t104.length co18 : Value).ownBlock ∧ (some k_ ≠ (.slice Ao20 t108.length co20 : Value).ownBlock ∧ (some k_ ≠ (.slice Ao26 t117.length co26 : Value).ownBlock ∧ (k_ ≠ gb111 ∧ (k_ ≠ gb112 ∧ k_ ≠ gb120))))))) (.slice Ao95 t113.length co95) t113) := ⟨by rw [← hq_]; exact (nz HO_7.out)⟩; have n5_ : Aside0 (wc.heap[gb111]? = some (.cells #[.string t103, .slice Ao18 t104.length co18] 28 (0, 0))) := ⟨by rw [← hq_]; exact (kz BK111.out)⟩; have n6_ : Aside0 (wc.heap[gb112]? = some (.cells #[.string t107, .slice Ao20 t108.length co20] 28 (0, 0))) := ⟨by rw [← hq_]; exact (kz BK112.out)⟩; have n7_ : Aside0 (wc.heap[gb120]? = some (.cells #[.string t116, .slice Ao26 t117.length co26] 28 (0, 0))) := ⟨by rw [← hq_]; exact (kz BK120.out)⟩; have n8_ : Aside0 (Below w.heap.size w wc) := ⟨by rw [← hq_]; exact (bq)⟩; clear HO_112001 HO_113001 HO_121001 HO_17 HO_7 BK111 BK112 BK120 HB hq_; have HO_112001 := n0_; have HO_113001 := n1_; have HO_121001 := n2_; have HO_17 := n3_; have HO_7 := n4_; have BK111 := n5_; have BK112 := n6_; have BK120 := n7_; have HB := n8_; clear n0_ n1_ n2_ n3_ n4_ n5_ n6_ n7_ n8_))
                     have n0_ := Aside0.mk (Kd.N_drew HO_7.out)
                     have n1_ := Aside0.mk (Kd.cu_ HO_17.out)
                     have n2_ := Aside0.mk (Kd.as_ HO_112001.out)
                     have n3_ := Aside0.mk (Kd.as_ HO_113001.out)
                     have n4_ := Aside0.mk (Kd.as_ HO_121001.out)
                     have n5_ := Aside0.mk (ay_ BK111.out)
                     have n6_ := Aside0.mk (ay_ BK112.out)
                     have n7_ := Aside0.mk (ay_ BK120.out)
                     have n8_ := Aside0.mk (bD_ HB.out)
                     clear HO_7
                     clear HO_17
                     clear HO_112001
                     clear HO_113001
                     clear HO_121001
                     clear BK111
                     clear BK112
                     clear BK120
                     clear HB
                     have HO_7 := n0_
                     have HO_17 := n1_
                     have HO_112001 := n2_
                     have HO_113001 := n3_
                     have HO_121001 := n4_
                     have BK111 := n5_
                     have BK112 := n6_
                     have BK120 := n7_
                     have HB := n8_
                     clear n0_ n1_ n2_ n3_ n4_ n5_ n6_ n7_ n8_
                     have p147 : 0 ≤ (x23_6 : Int) := of_decide_eq_true (by assumption)
                     have q147 : x23_6 < (t131.length : Int) := of_decide_eq_true (by assumption)
                     obtain ⟨ad147, e147, hx147_0⟩ := Kd.bL_ (Kd.aD_ HO_17.out).2.2 x23_6 p147 q147
                     cases e147
                     replace p147 := eq_true p147
                     replace q147 := eq_true q147
                     have p148 : 0 ≤ ((rd t131 x23_6) : Int) := of_decide_eq_true (by assumption)
                     have q148 : (rd t131 x23_6) < (t113.length : Int) := of_decide_eq_true (by assumption)
                     obtain ⟨ad148, A148_1, c148_1, e148, hx148_0, hx148_1, hl148_1, hi148_1⟩ := bY_ (Kd.ck_ HO_7.out).2.2 (rd t131 x23_6) p148 q148
                     cases e148
                     obtain ⟨ce148, hce148, hMe148, hcc148⟩ := Kd.N_get HO_7.out z28 (rd t131 x23_6) p148 (by first | exact q148 | exact of_decide_eq_true (by assumption) | (have e_ := (Kd.ck_ HO_7.out).1; omega))
                     obtain ⟨ua148_1, uc148_1, rfl, ul148_1, ge148_1⟩ := k28_openF hMe148
                     have hv148_1 := hcc148 1 _ rfl
                     rw [add_field _ _ 1 (by omega)] at hv148_1
                     replace hv148_1 := Option.some.inj (hv148_1.symm.trans hx148_1)
                     injection hv148_1 with hva_ hvn_ hvc_
                     rw [hva_] at ge148_1
                     rw [hvc_] at ul148_1
                     have HL148_1 := Aside0.mk (show Kd.V (Kd.int .i64) 2 _ w.heap.size _ _ ((af_ t113 (rd t131 x23_6)).f1) from Kd.V_mk ul148_1 ge148_1)
                     clear hva_ hvn_ hvc_ ge148_1 ul148_1
                     clear hcc148 hce148
                     have HR148_1 := Aside0.mk hi148_1
                     have HC148_1 := Aside0.mk hl148_1
                     clear hi148_1 hl148_1
                     replace p148 := eq_true p148
                     replace q148 := eq_true q148
                     refine cv_ (n := 14) (S := fun w' => w'.cell? ⟨gb120, 0, none⟩ = some (.string t116) ∧ w'.cell? ⟨gb120, 1, none⟩ = some (.slice Ao26 t117.length co26) ∧ w'.cell? (ad147.add (x23_6).toNat) = some (.int .i64 (rd t131 x23_6)) ∧ w'.cell? (ad148.add (((rd t131 x23_6)).toNat * 2)) = some (.string ((af_ t113 (rd t131 x23_6)).f0)) ∧ w'.cell? ⟨(ad148.add (((rd t131 x23_6)).toNat * 2)).block, (ad148.add (((rd t131 x23_6)).toNat * 2)).off + 1, none⟩ = some (.slice A148_1 ((af_ t113 (rd t131 x23_6)).f1).length c148_1)) (ds := []) #[f_,f_,f_,f_,f_,f_,f_,f_,f_,f_,f_,f_,f_,f_] (by kernel_rfl) rfl rfl ⟨(aM_ BK120.out 0).trans rfl, (aM_ BK120.out 1).trans rfl, hx147_0, hx148_0, hx148_1⟩ (fun hHeld => ?_); refine bT_ ac_.tab26 ac_.bits26 (fun HT_ HW_ => ?_)
                     generalize wc.drew = w139 at HO_7 HO_17 HO_112001 HO_113001 HO_121001 BK111 BK112 BK120 HB HL148_1 HR148_1 hx147_0 hx148_0 hx148_1 hHeld ⊢
                     refine pu 0 165 #[t_,f_,f_,f_,f_,f_,f_,f_,f_,f_,f_,f_,f_,f_] HT_ ?_
                     refine pu 1 166 #[t_,t_,f_,f_,f_,f_,f_,f_,f_,f_,f_,f_,f_,f_] HT_ ?_
                     refine pu 2 167 #[t_,t_,t_,f_,f_,f_,f_,f_,f_,f_,f_,f_,f_,f_] HT_ ?_
                     refine pu 3 168 #[t_,t_,t_,t_,f_,f_,f_,f_,f_,f_,f_,f_,f_,f_] HT_ ?_
                     refine tk 4 169 #[t_,t_,t_,t_,t_,f_,f_,f_,f_,f_,f_,f_,f_,f_] HT_ HW_ hHeld ?_ (hv := by rintro w' ⟨s0, s1, s2, s3, s4⟩; go_simp; with_reducible rfl)
                     refine pu 5 170 #[t_,t_,t_,t_,t_,t_,f_,f_,f_,f_,f_,f_,f_,f_] HT_ ?_
                     refine tk 6 171 #[t_,t_,t_,t_,t_,t_,t_,f_,f_,f_,f_,f_,f_,f_] HT_ HW_ hHeld ?_ (hv := by rintro w' ⟨s0, s1, s2, s3, s4⟩; go_simp; with_reducible rfl)
                     refine tk 7 172 #[t_,t_,t_,t_,t_,t_,t_,t_,f_,f_,f_,f_,f_,f_] HT_ HW_ hHeld ?_ (hv := by rintro w' ⟨s0, s1, s2, s3, s4⟩; go_simp; with_reducible rfl)
                     refine one_ (i := 8) (N := some 173) #[t_,t_,t_,t_,t_,t_,t_,t_,t_,f_,f_,f_,f_,f_] rfl rfl (cs_ HT_.out (by kernel_rfl)) (by decide) (fun K hK => ?_)
                     (first | refine goes_ Try.func15 (by kernel_rfl) rfl #[.agg #[.string ((af_ t113 (rd t131 x23_6)).f0), .slice A148_1 ((af_ t113 (rd t131 x23_6)).f1).length c148_1], .agg #[.string t116, .slice Ao26 t117.length co26]] (by rfl) rfl rfl (by first | rfl | (simp only [lma_, lmc_, lmn_]; first | done | rfl)) ?_ | refine RPW.cC_ Try.func15 (by kernel_rfl) rfl #[.agg #[.string ((af_ t113 (rd t131 x23_6)).f0), .slice A148_1 ((af_ t113 (rd t131 x23_6)).f1).length c148_1], .agg #[.string t116, .slice Ao26 t117.length co26]] (by rfl) rfl rfl rfl (by first | rfl | (simp only [lma_, lmc_, lmn_]; first | done | rfl)) ?_ | refine RPW.cB_ Try.func15 (by kernel_rfl) rfl #[.agg #[.string ((af_ t113 (rd t131 x23_6)).f0), .slice A148_1 ((af_ t113 (rd t131 x23_6)).f1).length c148_1], .agg #[.string t116, .slice Ao26 t117.length co26]] (by rfl) rfl rfl rfl (by first | rfl | (simp only [lma_, lmc_, lmn_]; first | done | rfl)) ?_)
                     with_reducible refine (ar_.calls kj108 ((af_ t113 (rd t131 x23_6)).f0) _ _ ((af_ t113 (rd t131 x23_6)).f1) t116 _ _ t117 t149 t150 _ ?side1 ?side2 ?side3 ?side4 A126.out).mono ?_
                     (case side1 => repeat (first | exact (by repeat (first | (with_reducible exact HR148_1.out) | (with_reducible first | refine Kd.bn_ ?_ _ | refine Kd.bm_ ?_ _ | refine Kd.bE_ ?_) | exact HR148_1.out)) | (with_reducible first | refine Kd.bn_ ?_ _ | refine Kd.bm_ ?_ _ | refine Kd.bE_ ?_)))
                     (case side2 => exact HC148_1.out)
                     (case side3 => exact cz (Kd.aN_ HO_121001.out).2.2)
                     (case side4 => exact (Kd.aN_ HO_121001.out).2.1)
                     rintro e w140 ⟨rfl, hb⟩
                     have HS2_ := (hb.cell (bl_ _ _ (hHeld.2.2.1))).trans (hHeld.2.2.1)
                     have HS3_ := (hb.cell (bl_ _ _ (hHeld.2.2.2.1))).trans (hHeld.2.2.2.1)
                     have HS4_ := (hb.cell (bl_ _ _ (hHeld.2.2.2.2))).trans (hHeld.2.2.2.2)
                     refine ⟨_, rfl, ?_⟩
                     have n0_ := Aside0.mk (Kd.cd_ (nz HO_7.out) hb)
                     have n1_ := Aside0.mk (Kd.cc_ (rz HO_17.out) hb)
                     have n2_ := Aside0.mk (Kd.aU_ (by (with_reducible repeat (first | apply Kd.ap_ | apply Kd.aq_ | apply Kd.as_)); exact HO_112001.out) hb)
                     have n3_ := Aside0.mk (Kd.aU_ (by (with_reducible repeat (first | apply Kd.ap_ | apply Kd.aq_ | apply Kd.as_)); exact HO_113001.out) hb)
                     have n4_ := Aside0.mk (Kd.aU_ (by (with_reducible repeat (first | apply Kd.ap_ | apply Kd.aq_ | apply Kd.as_)); exact HO_121001.out) hb)
                     have n5_ := Aside0.mk (Kd.V_below (vz HL148_1.out) hb)
                     have n6_ := Aside0.mk (ag_ (kz BK111.out) hb)
                     have n7_ := Aside0.mk (ag_ (kz BK112.out) hb)
                     have n8_ := Aside0.mk (ag_ (kz BK120.out) hb)
                     have n9_ := Aside0.mk (Kd.bi_ (by repeat (first | (with_reducible exact HR148_1.out) | (with_reducible first | refine Kd.bn_ ?_ _ | refine Kd.bm_ ?_ _ | refine Kd.bE_ ?_) | exact HR148_1.out)) hb)
                     have n10_ := Aside0.mk (am_ (bq) hb)
                     clear HO_7
                     clear HO_17
                     clear HO_112001
                     clear HO_113001
                     clear HO_121001
                     clear HL148_1
                     clear BK111
                     clear BK112
                     clear BK120
                     clear HR148_1
                     clear HB
                     have HO_7 := n0_
                     have HO_17 := n1_
                     have HO_112001 := n2_
                     have HO_113001 := n3_
                     have HO_121001 := n4_
                     have HL148_1 := n5_
                     have BK111 := n6_
                     have BK112 := n7_
                     have BK120 := n8_
                     have HR148_1 := n9_
                     have HB := n10_
                     clear n0_ n1_ n2_ n3_ n4_ n5_ n6_ n7_ n8_ n9_ n10_
                     (try clear hb)
                     refine hK.out _ _ ⟨(aM_ BK120.out 0).trans rfl, (aM_ BK120.out 1).trans rfl, HS2_, HS3_, HS4_⟩ (fun hHeld => ?_)
                     clear hK K
                     refine norm_ (a' := ?_) ?_ ?_
                     rotate_left
                     ·show Act.put _ (some 173) _ = _
                      simp only [Act.put, lsa_, ls0_, ls1_, i64_w, i32_w]
                      rfl
                     refine pu 9 164 #[t_,t_,t_,t_,t_,t_,t_,t_,t_,t_,f_,f_,f_,f_] HT_ ?_
                     refine pu 10 174 #[t_,t_,t_,t_,t_,t_,t_,t_,t_,t_,t_,f_,f_,f_] HT_ ?_
                     refine pu 11 175 #[t_,t_,t_,t_,t_,t_,t_,t_,t_,t_,t_,t_,f_,f_] HT_ ?_
                     refine pu 12 24 #[t_,t_,t_,t_,t_,t_,t_,t_,t_,t_,t_,t_,t_,f_] HT_ ?_
                     refine pu 13 25 #[t_,t_,t_,t_,t_,t_,t_,t_,t_,t_,t_,t_,t_,t_] HT_ ?_
                     refine done_ (cl_ HT_.out (by kernel_rfl)) ?_
                     try go_wp2
                     go_roundg kj108
                     case measure => have := HJ2.out; have := HJ11.out; have := HJ34.out; have := HJ41.out; have := HJ98.out; have := HK6.out; have := HJ108.out; omega
                     case rel => exact ⟨(t149), (wrap64 (x23_6 + 1)), (by first | rfl | (simp; done) | (simp [*]; done)), (by first | rfl | (simp; done) | (simp [*]; done)), H', ⟨by have := HJ2.out; have := HJ11.out; have := HJ34.out; have := HJ41.out; have := HJ98.out; have := HK6.out; have := HJ108.out; omega⟩, ⟨nz HO_7.out⟩, ⟨rz HO_17.out⟩, ⟨by (with_reducible repeat (first | apply Kd.ap_ | apply Kd.aq_ | apply Kd.as_)); exact HO_112001.out⟩, ⟨by (with_reducible repeat (first | apply Kd.ap_ | apply Kd.aq_ | apply Kd.as_)); exact HO_113001.out⟩, ⟨by (with_reducible repeat (first | apply Kd.ap_ | apply Kd.aq_ | apply Kd.as_)); exact HO_121001.out⟩, ⟨by (with_reducible repeat (first | refine aK_ ?_ _ | refine ay_ ?_ | refine aI_ ?_ _)); exact BK111.out⟩, ⟨by (with_reducible repeat (first | refine aK_ ?_ _ | refine ay_ ?_ | refine aI_ ?_ _)); exact BK112.out⟩, ⟨by (with_reducible repeat (first | refine aK_ ?_ _ | refine ay_ ?_ | refine aI_ ?_ _)); exact BK120.out⟩, ⟨bq⟩⟩
                    rw [if_pos c131] at H
                    have c131b0 : (x23_6 == 0) = true := beq_iff_eq.mpr c131
                    have c131b1 : (x23_6 != 0) = false := bne_eq_false_iff_eq.mpr c131
                    clear c131
                    by_cases c132 : t149 = t136
                    rotate_left
                    ·rw [if_neg c132] at H
                     have c132b0 : (t149 == t136) = false := beq_eq_false_iff_ne.mpr c132
                     have c132b1 : (t149 != t136) = true := bne_iff_ne.mpr c132
                     obtain rfl := Option.some.inj H
                     try go_wp2
                     (try (rw [ce_ wc]; generalize hq_ : World.drewN wc _ = wc; have n0_ : Aside0 (Kd.Q (Kd.int .i64) 2 wc w.heap.size (fun k_ => (some k_ ≠ (.slice Ao110 t131.length co110 : Value).ownBlock ∧ (some k_ ≠ (.slice Ao20 t108.length co20 : Value).ownBlock ∧ some k_ ≠ (.slice Ao26 t117.length co26 : Value).ownBlock))) (.slice Ao18 t104.length co18) t104) := ⟨by rw [← hq_]; exact (by (with_reducible repeat (first | apply Kd.ap_ | apply Kd.aq_ | apply Kd.as_)); exact HO_112001.out)⟩; have n1_ : Aside0 (Kd.Q (Kd.int .i64) 2 wc w.heap.size (fun k_ => (some k_ ≠ (.slice Ao110 t131.length co110 : Value).ownBlock ∧ (some k_ ≠ (.slice Ao18 t104.length co18 : Value).ownBlock ∧ some k_ ≠ (.slice Ao26 t117.length co26 : Value).ownBlock))) (.slice Ao20 t108.length co20) t108) := ⟨by rw [← hq_]; exact (by (with_reducible repeat (first | apply Kd.ap_ | apply Kd.aq_ | apply Kd.as_)); exact HO_113001.out)⟩; have n2_ : Aside0 (Kd.Q (Kd.int .i64) 2 wc w.heap.size (fun k_ => (some k_ ≠ (.slice Ao110 t131.length co110 : Value).ownBlock ∧ (some k_ ≠ (.slice Ao18 t104.length co18 : Value).ownBlock ∧ some k_ ≠ (.slice Ao20 t108.length co20 : Value).ownBlock))) (.slice Ao26 t117.length co26) t117) := ⟨by rw [← hq_]; exact (by (with_reducible repeat (first | apply Kd.ap_ | apply Kd.aq_ | apply Kd.as_)); exact HO_121001.out)⟩; have n3_ : Aside0 (Kd.R (Kd.int .i64) 2 wc w.heap.size (fun k_ => (some k_ ≠ (.slice Ao18 t104.length co18 : Value).ownBlock ∧ (some k_ ≠ (.slice Ao20 t108.length co20 : Value).ownBlock ∧ some k_ ≠ (.slice Ao26 t117.length co26 : Value).ownBlock))) (.slice Ao110 t131.length co110) t131) := ⟨by rw [← hq_]; exact (rz HO_17.out)⟩; have n4_ : Aside0 (Kd.N k28 28 wc w.heap.size (fun k_ => (some k_ ≠ (.slice Ao110 t131.length co110 : Value).ownBlock ∧ (some k_ ≠ (.slice Ao18 t104.length co18 : Value).ownBlock ∧ (some k_ ≠ (.slice Ao20 t108.length co20 : Value).ownBlock ∧ (some k_ ≠ (.slice Ao26 t117.length co26 : Value).ownBlock ∧ (k_ ≠ gb111 ∧ (k_ ≠ gb112 ∧ k_ ≠ gb120))))))) (.slice Ao95 t113.length co95) t113) := ⟨by rw [← hq_]; exact (nz HO_7.out)⟩; have n5_ : Aside0 (wc.heap[gb111]? = some (.cells #[.string t103, .slice Ao18 t104.length co18] 28 (0, 0))) := ⟨by rw [← hq_]; exact (kz BK111.out)⟩; have n6_ : Aside0 (wc.heap[gb112]? = some (.cells #[.string t107, .slice Ao20 t108.length co20] 28 (0, 0))) := ⟨by rw [← hq_]; exact (kz BK112.out)⟩; have n7_ : Aside0 (wc.heap[gb120]? = some (.cells #[.string t116, .slice Ao26 t117.length co26] 28 (0, 0))) := ⟨by rw [← hq_]; exact (kz BK120.out)⟩; have n8_ : Aside0 (Below w.heap.size w wc) := ⟨by rw [← hq_]; exact (bq)⟩; clear HO_112001 HO_113001 HO_121001 HO_17 HO_7 BK111 BK112 BK120 HB hq_; have HO_112001 := n0_; have HO_113001 := n1_; have HO_121001 := n2_; have HO_17 := n3_; have HO_7 := n4_; have BK111 := n5_; have BK112 := n6_; have BK120 := n7_; have HB := n8_; clear n0_ n1_ n2_ n3_ n4_ n5_ n6_ n7_ n8_))
                     have n0_ := Aside0.mk (Kd.N_drew HO_7.out)
                     have n1_ := Aside0.mk (Kd.cu_ HO_17.out)
                     have n2_ := Aside0.mk (Kd.as_ HO_112001.out)
                     have n3_ := Aside0.mk (Kd.as_ HO_113001.out)
                     have n4_ := Aside0.mk (Kd.as_ HO_121001.out)
                     have n5_ := Aside0.mk (ay_ BK111.out)
                     have n6_ := Aside0.mk (ay_ BK112.out)
                     have n7_ := Aside0.mk (ay_ BK120.out)
                     have n8_ := Aside0.mk (bD_ HB.out)
                     clear HO_7
                     clear HO_17
                     clear HO_112001
                     clear HO_113001
                     clear HO_121001
                     clear BK111
                     clear BK112
                     clear BK120
                     clear HB
                     have HO_7 := n0_
                     have HO_17 := n1_
                     have HO_112001 := n2_
                     have HO_113001 := n3_
                     have HO_121001 := n4_
                     have BK111 := n5_
                     have BK112 := n6_
                     have BK120 := n7_
                     have HB := n8_
                     clear n0_ n1_ n2_ n3_ n4_ n5_ n6_ n7_ n8_
                     have p147 : 0 ≤ (x23_6 : Int) := of_decide_eq_true (by assumption)
                     have q147 : x23_6 < (t131.length : Int) := of_decide_eq_true (by assumption)
                     obtain ⟨ad147, e147, hx147_0⟩ := Kd.bL_ (Kd.aD_ HO_17.out).2.2 x23_6 p147 q147
                     cases e147
                     replace p147 := eq_true p147
                     replace q147 := eq_true q147
                     have p148 : 0 ≤ ((rd t131 x23_6) : Int) := of_decide_eq_true (by assumption)
                     have q148 : (rd t131 x23_6) < (t113.length : Int) := of_decide_eq_true (by assumption)
                     obtain ⟨ad148, A148_1, c148_1, e148, hx148_0, hx148_1, hl148_1, hi148_1⟩ := bY_ (Kd.ck_ HO_7.out).2.2 (rd t131 x23_6) p148 q148
                     cases e148
                     obtain ⟨ce148, hce148, hMe148, hcc148⟩ := Kd.N_get HO_7.out z28 (rd t131 x23_6) p148 (by first | exact q148 | exact of_decide_eq_true (by assumption) | (have e_ := (Kd.ck_ HO_7.out).1; omega))
                     obtain ⟨ua148_1, uc148_1, rfl, ul148_1, ge148_1⟩ := k28_openF hMe148
                     have hv148_1 := hcc148 1 _ rfl
                     rw [add_field _ _ 1 (by omega)] at hv148_1
                     replace hv148_1 := Option.some.inj (hv148_1.symm.trans hx148_1)
                     injection hv148_1 with hva_ hvn_ hvc_
                     rw [hva_] at ge148_1
                     rw [hvc_] at ul148_1
                     have HL148_1 := Aside0.mk (show Kd.V (Kd.int .i64) 2 _ w.heap.size _ _ ((af_ t113 (rd t131 x23_6)).f1) from Kd.V_mk ul148_1 ge148_1)
                     clear hva_ hvn_ hvc_ ge148_1 ul148_1
                     clear hcc148 hce148
                     have HR148_1 := Aside0.mk hi148_1
                     have HC148_1 := Aside0.mk hl148_1
                     clear hi148_1 hl148_1
                     replace p148 := eq_true p148
                     replace q148 := eq_true q148
                     refine cv_ (n := 14) (S := fun w' => w'.cell? ⟨gb120, 0, none⟩ = some (.string t116) ∧ w'.cell? ⟨gb120, 1, none⟩ = some (.slice Ao26 t117.length co26) ∧ w'.cell? (ad147.add (x23_6).toNat) = some (.int .i64 (rd t131 x23_6)) ∧ w'.cell? (ad148.add (((rd t131 x23_6)).toNat * 2)) = some (.string ((af_ t113 (rd t131 x23_6)).f0)) ∧ w'.cell? ⟨(ad148.add (((rd t131 x23_6)).toNat * 2)).block, (ad148.add (((rd t131 x23_6)).toNat * 2)).off + 1, none⟩ = some (.slice A148_1 ((af_ t113 (rd t131 x23_6)).f1).length c148_1)) (ds := []) #[f_,f_,f_,f_,f_,f_,f_,f_,f_,f_,f_,f_,f_,f_] (by kernel_rfl) rfl rfl ⟨(aM_ BK120.out 0).trans rfl, (aM_ BK120.out 1).trans rfl, hx147_0, hx148_0, hx148_1⟩ (fun hHeld => ?_); refine bT_ ac_.tab26 ac_.bits26 (fun HT_ HW_ => ?_)
                     generalize wc.drew = w137 at HO_7 HO_17 HO_112001 HO_113001 HO_121001 BK111 BK112 BK120 HB HL148_1 HR148_1 hx147_0 hx148_0 hx148_1 hHeld ⊢
                     refine pu 0 165 #[t_,f_,f_,f_,f_,f_,f_,f_,f_,f_,f_,f_,f_,f_] HT_ ?_
                     refine pu 1 166 #[t_,t_,f_,f_,f_,f_,f_,f_,f_,f_,f_,f_,f_,f_] HT_ ?_
                     refine pu 2 167 #[t_,t_,t_,f_,f_,f_,f_,f_,f_,f_,f_,f_,f_,f_] HT_ ?_
                     refine pu 3 168 #[t_,t_,t_,t_,f_,f_,f_,f_,f_,f_,f_,f_,f_,f_] HT_ ?_
                     refine tk 4 169 #[t_,t_,t_,t_,t_,f_,f_,f_,f_,f_,f_,f_,f_,f_] HT_ HW_ hHeld ?_ (hv := by rintro w' ⟨s0, s1, s2, s3, s4⟩; go_simp; with_reducible rfl)
                     refine pu 5 170 #[t_,t_,t_,t_,t_,t_,f_,f_,f_,f_,f_,f_,f_,f_] HT_ ?_
                     refine tk 6 171 #[t_,t_,t_,t_,t_,t_,t_,f_,f_,f_,f_,f_,f_,f_] HT_ HW_ hHeld ?_ (hv := by rintro w' ⟨s0, s1, s2, s3, s4⟩; go_simp; with_reducible rfl)
                     refine tk 7 172 #[t_,t_,t_,t_,t_,t_,t_,t_,f_,f_,f_,f_,f_,f_] HT_ HW_ hHeld ?_ (hv := by rintro w' ⟨s0, s1, s2, s3, s4⟩; go_simp; with_reducible rfl)
                     refine one_ (i := 8) (N := some 173) #[t_,t_,t_,t_,t_,t_,t_,t_,t_,f_,f_,f_,f_,f_] rfl rfl (cs_ HT_.out (by kernel_rfl)) (by decide) (fun K hK => ?_)
                     (first | refine goes_ Try.func15 (by kernel_rfl) rfl #[.agg #[.string ((af_ t113 (rd t131 x23_6)).f0), .slice A148_1 ((af_ t113 (rd t131 x23_6)).f1).length c148_1], .agg #[.string t116, .slice Ao26 t117.length co26]] (by rfl) rfl rfl (by first | rfl | (simp only [lma_, lmc_, lmn_]; first | done | rfl)) ?_ | refine RPW.cC_ Try.func15 (by kernel_rfl) rfl #[.agg #[.string ((af_ t113 (rd t131 x23_6)).f0), .slice A148_1 ((af_ t113 (rd t131 x23_6)).f1).length c148_1], .agg #[.string t116, .slice Ao26 t117.length co26]] (by rfl) rfl rfl rfl (by first | rfl | (simp only [lma_, lmc_, lmn_]; first | done | rfl)) ?_ | refine RPW.cB_ Try.func15 (by kernel_rfl) rfl #[.agg #[.string ((af_ t113 (rd t131 x23_6)).f0), .slice A148_1 ((af_ t113 (rd t131 x23_6)).f1).length c148_1], .agg #[.string t116, .slice Ao26 t117.length co26]] (by rfl) rfl rfl rfl (by first | rfl | (simp only [lma_, lmc_, lmn_]; first | done | rfl)) ?_)
                     with_reducible refine (ar_.calls kj108 ((af_ t113 (rd t131 x23_6)).f0) _ _ ((af_ t113 (rd t131 x23_6)).f1) t116 _ _ t117 t149 t150 _ ?side1 ?side2 ?side3 ?side4 A126.out).mono ?_
                     (case side1 => repeat (first | exact (by repeat (first | (with_reducible exact HR148_1.out) | (with_reducible first | refine Kd.bn_ ?_ _ | refine Kd.bm_ ?_ _ | refine Kd.bE_ ?_) | exact HR148_1.out)) | (with_reducible first | refine Kd.bn_ ?_ _ | refine Kd.bm_ ?_ _ | refine Kd.bE_ ?_)))
                     (case side2 => exact HC148_1.out)
                     (case side3 => exact cz (Kd.aN_ HO_121001.out).2.2)
                     (case side4 => exact (Kd.aN_ HO_121001.out).2.1)
                     rintro e w138 ⟨rfl, hb⟩
                     have HS2_ := (hb.cell (bl_ _ _ (hHeld.2.2.1))).trans (hHeld.2.2.1)
                     have HS3_ := (hb.cell (bl_ _ _ (hHeld.2.2.2.1))).trans (hHeld.2.2.2.1)
                     have HS4_ := (hb.cell (bl_ _ _ (hHeld.2.2.2.2))).trans (hHeld.2.2.2.2)
                     refine ⟨_, rfl, ?_⟩
                     have n0_ := Aside0.mk (Kd.cd_ (nz HO_7.out) hb)
                     have n1_ := Aside0.mk (Kd.cc_ (rz HO_17.out) hb)
                     have n2_ := Aside0.mk (Kd.aU_ (by (with_reducible repeat (first | apply Kd.ap_ | apply Kd.aq_ | apply Kd.as_)); exact HO_112001.out) hb)
                     have n3_ := Aside0.mk (Kd.aU_ (by (with_reducible repeat (first | apply Kd.ap_ | apply Kd.aq_ | apply Kd.as_)); exact HO_113001.out) hb)
                     have n4_ := Aside0.mk (Kd.aU_ (by (with_reducible repeat (first | apply Kd.ap_ | apply Kd.aq_ | apply Kd.as_)); exact HO_121001.out) hb)
                     have n5_ := Aside0.mk (Kd.V_below (vz HL148_1.out) hb)
                     have n6_ := Aside0.mk (ag_ (kz BK111.out) hb)
                     have n7_ := Aside0.mk (ag_ (kz BK112.out) hb)
                     have n8_ := Aside0.mk (ag_ (kz BK120.out) hb)
                     have n9_ := Aside0.mk (Kd.bi_ (by repeat (first | (with_reducible exact HR148_1.out) | (with_reducible first | refine Kd.bn_ ?_ _ | refine Kd.bm_ ?_ _ | refine Kd.bE_ ?_) | exact HR148_1.out)) hb)
                     have n10_ := Aside0.mk (am_ (bq) hb)
                     clear HO_7
                     clear HO_17
                     clear HO_112001
                     clear HO_113001
                     clear HO_121001
                     clear HL148_1
                     clear BK111
                     clear BK112
                     clear BK120
                     clear HR148_1
                     clear HB
                     have HO_7 := n0_
                     have HO_17 := n1_
                     have HO_112001 := n2_
                     have HO_113001 := n3_
                     have HO_121001 := n4_
                     have HL148_1 := n5_
                     have BK111 := n6_
                     have BK112 := n7_
                     have BK120 := n8_
                     have HR148_1 := n9_
                     have HB := n10_
                     clear n0_ n1_ n2_ n3_ n4_ n5_ n6_ n7_ n8_ n9_ n10_
                     (try clear hb)
                     refine hK.out _ _ ⟨(aM_ BK120.out 0).trans rfl, (aM_ BK120.out 1).trans rfl, HS2_, HS3_, HS4_⟩ (fun hHeld => ?_)
                     clear hK K
                     refine norm_ (a' := ?_) ?_ ?_
                     rotate_left
                     ·show Act.put _ (some 173) _ = _
                      simp only [Act.put, lsa_, ls0_, ls1_, i64_w, i32_w]
                      rfl
                     refine pu 9 164 #[t_,t_,t_,t_,t_,t_,t_,t_,t_,t_,f_,f_,f_,f_] HT_ ?_
                     refine pu 10 174 #[t_,t_,t_,t_,t_,t_,t_,t_,t_,t_,t_,f_,f_,f_] HT_ ?_
                     refine pu 11 175 #[t_,t_,t_,t_,t_,t_,t_,t_,t_,t_,t_,t_,f_,f_] HT_ ?_
                     refine pu 12 24 #[t_,t_,t_,t_,t_,t_,t_,t_,t_,t_,t_,t_,t_,f_] HT_ ?_
                     refine pu 13 25 #[t_,t_,t_,t_,t_,t_,t_,t_,t_,t_,t_,t_,t_,t_] HT_ ?_
                     refine done_ (cl_ HT_.out (by kernel_rfl)) ?_
                     try go_wp2
                     go_ret
                     exact ⟨by first | rfl | (simp [*, aH_, aG_] <;> rfl), bq⟩
                    rw [if_pos c132] at H
                    have c132b0 : (t149 == t136) = true := beq_iff_eq.mpr c132
                    have c132b1 : (t149 != t136) = false := bne_eq_false_iff_eq.mpr c132
                    clear c132
                    have HC133 := Aside0.mk H
                    clear H
                    try go_wp2
                    (try (rw [ce_ wc]; generalize hq_ : World.drewN wc _ = wc; have n0_ : Aside0 (Kd.Q (Kd.int .i64) 2 wc w.heap.size (fun k_ => (some k_ ≠ (.slice Ao110 t131.length co110 : Value).ownBlock ∧ (some k_ ≠ (.slice Ao20 t108.length co20 : Value).ownBlock ∧ some k_ ≠ (.slice Ao26 t117.length co26 : Value).ownBlock))) (.slice Ao18 t104.length co18) t104) := ⟨by rw [← hq_]; exact (by (with_reducible repeat (first | apply Kd.ap_ | apply Kd.aq_ | apply Kd.as_)); exact HO_112001.out)⟩; have n1_ : Aside0 (Kd.Q (Kd.int .i64) 2 wc w.heap.size (fun k_ => (some k_ ≠ (.slice Ao110 t131.length co110 : Value).ownBlock ∧ (some k_ ≠ (.slice Ao18 t104.length co18 : Value).ownBlock ∧ some k_ ≠ (.slice Ao26 t117.length co26 : Value).ownBlock))) (.slice Ao20 t108.length co20) t108) := ⟨by rw [← hq_]; exact (by (with_reducible repeat (first | apply Kd.ap_ | apply Kd.aq_ | apply Kd.as_)); exact HO_113001.out)⟩; have n2_ : Aside0 (Kd.Q (Kd.int .i64) 2 wc w.heap.size (fun k_ => (some k_ ≠ (.slice Ao110 t131.length co110 : Value).ownBlock ∧ (some k_ ≠ (.slice Ao18 t104.length co18 : Value).ownBlock ∧ some k_ ≠ (.slice Ao20 t108.length co20 : Value).ownBlock))) (.slice Ao26 t117.length co26) t117) := ⟨by rw [← hq_]; exact (by (with_reducible repeat (first | apply Kd.ap_ | apply Kd.aq_ | apply Kd.as_)); exact HO_121001.out)⟩; have n3_ : Aside0 (Kd.R (Kd.int .i64) 2 wc w.heap.size (fun k_ => (some k_ ≠ (.slice Ao18 t104.length co18 : Value).ownBlock ∧ (some k_ ≠ (.slice Ao20 t108.length co20 : Value).ownBlock ∧ some k_ ≠ (.slice Ao26 t117.length co26 : Value).ownBlock))) (.slice Ao110 t131.length co110) t131) := ⟨by rw [← hq_]; exact (rz HO_17.out)⟩; have n4_ : Aside0 (Kd.N k28 28 wc w.heap.size (fun k_ => (some k_ ≠ (.slice Ao110 t131.length co110 : Value).ownBlock ∧ (some k_ ≠ (.slice Ao18 t104.length co18 : Value).ownBlock ∧ (some k_ ≠ (.slice Ao20 t108.length co20 : Value).ownBlock ∧ (some k_ ≠ (.slice Ao26 t117.length co26 : Value).ownBlock ∧ (k_ ≠ gb111 ∧ (k_ ≠ gb112 ∧ k_ ≠ gb120))))))) (.slice Ao95 t113.length co95) t113) := ⟨by rw [← hq_]; exact (nz HO_7.out)⟩; have n5_ : Aside0 (wc.heap[gb111]? = some (.cells #[.string t103, .slice Ao18 t104.length co18] 28 (0, 0))) := ⟨by rw [← hq_]; exact (kz BK111.out)⟩; have n6_ : Aside0 (wc.heap[gb112]? = some (.cells #[.string t107, .slice Ao20 t108.length co20] 28 (0, 0))) := ⟨by rw [← hq_]; exact (kz BK112.out)⟩; have n7_ : Aside0 (wc.heap[gb120]? = some (.cells #[.string t116, .slice Ao26 t117.length co26] 28 (0, 0))) := ⟨by rw [← hq_]; exact (kz BK120.out)⟩; have n8_ : Aside0 (Below w.heap.size w wc) := ⟨by rw [← hq_]; exact (bq)⟩; clear HO_112001 HO_113001 HO_121001 HO_17 HO_7 BK111 BK112 BK120 HB hq_; have HO_112001 := n0_; have HO_113001 := n1_; have HO_121001 := n2_; have HO_17 := n3_; have HO_7 := n4_; have BK111 := n5_; have BK112 := n6_; have BK120 := n7_; have HB := n8_; clear n0_ n1_ n2_ n3_ n4_ n5_ n6_ n7_ n8_))
                    have n0_ := Aside0.mk (Kd.N_drew HO_7.out)
                    have n1_ := Aside0.mk (Kd.cu_ HO_17.out)
                    have n2_ := Aside0.mk (Kd.as_ HO_112001.out)
                    have n3_ := Aside0.mk (Kd.as_ HO_113001.out)
                    have n4_ := Aside0.mk (Kd.as_ HO_121001.out)
                    have n5_ := Aside0.mk (ay_ BK111.out)
                    have n6_ := Aside0.mk (ay_ BK112.out)
                    have n7_ := Aside0.mk (ay_ BK120.out)
                    have n8_ := Aside0.mk (bD_ HB.out)
                    clear HO_7
                    clear HO_17
                    clear HO_112001
                    clear HO_113001
                    clear HO_121001
                    clear BK111
                    clear BK112
                    clear BK120
                    clear HB
                    have HO_7 := n0_
                    have HO_17 := n1_
                    have HO_112001 := n2_
                    have HO_113001 := n3_
                    have HO_121001 := n4_
                    have BK111 := n5_
                    have BK112 := n6_
                    have BK120 := n7_
                    have HB := n8_
                    clear n0_ n1_ n2_ n3_ n4_ n5_ n6_ n7_ n8_
                    have p147 : 0 ≤ (x23_6 : Int) := of_decide_eq_true (by assumption)
                    have q147 : x23_6 < (t131.length : Int) := of_decide_eq_true (by assumption)
                    obtain ⟨ad147, e147, hx147_0⟩ := Kd.bL_ (Kd.aD_ HO_17.out).2.2 x23_6 p147 q147
                    cases e147
                    replace p147 := eq_true p147
                    replace q147 := eq_true q147
                    have p148 : 0 ≤ ((rd t131 x23_6) : Int) := of_decide_eq_true (by assumption)
                    have q148 : (rd t131 x23_6) < (t113.length : Int) := of_decide_eq_true (by assumption)
                    obtain ⟨ad148, A148_1, c148_1, e148, hx148_0, hx148_1, hl148_1, hi148_1⟩ := bY_ (Kd.ck_ HO_7.out).2.2 (rd t131 x23_6) p148 q148
                    cases e148
                    obtain ⟨ce148, hce148, hMe148, hcc148⟩ := Kd.N_get HO_7.out z28 (rd t131 x23_6) p148 (by first | exact q148 | exact of_decide_eq_true (by assumption) | (have e_ := (Kd.ck_ HO_7.out).1; omega))
                    obtain ⟨ua148_1, uc148_1, rfl, ul148_1, ge148_1⟩ := k28_openF hMe148
                    have hv148_1 := hcc148 1 _ rfl
                    rw [add_field _ _ 1 (by omega)] at hv148_1
                    replace hv148_1 := Option.some.inj (hv148_1.symm.trans hx148_1)
                    injection hv148_1 with hva_ hvn_ hvc_
                    rw [hva_] at ge148_1
                    rw [hvc_] at ul148_1
                    have HL148_1 := Aside0.mk (show Kd.V (Kd.int .i64) 2 _ w.heap.size _ _ ((af_ t113 (rd t131 x23_6)).f1) from Kd.V_mk ul148_1 ge148_1)
                    clear hva_ hvn_ hvc_ ge148_1 ul148_1
                    clear hcc148 hce148
                    have HR148_1 := Aside0.mk hi148_1
                    have HC148_1 := Aside0.mk hl148_1
                    clear hi148_1 hl148_1
                    replace p148 := eq_true p148
                    replace q148 := eq_true q148
                    refine cv_ (n := 14) (S := fun w' => w'.cell? ⟨gb120, 0, none⟩ = some (.string t116) ∧ w'.cell? ⟨gb120, 1, none⟩ = some (.slice Ao26 t117.length co26) ∧ w'.cell? (ad147.add (x23_6).toNat) = some (.int .i64 (rd t131 x23_6)) ∧ w'.cell? (ad148.add (((rd t131 x23_6)).toNat * 2)) = some (.string ((af_ t113 (rd t131 x23_6)).f0)) ∧ w'.cell? ⟨(ad148.add (((rd t131 x23_6)).toNat * 2)).block, (ad148.add (((rd t131 x23_6)).toNat * 2)).off + 1, none⟩ = some (.slice A148_1 ((af_ t113 (rd t131 x23_6)).f1).length c148_1)) (ds := []) #[f_,f_,f_,f_,f_,f_,f_,f_,f_,f_,f_,f_,f_,f_] (by kernel_rfl) rfl rfl ⟨(aM_ BK120.out 0).trans rfl, (aM_ BK120.out 1).trans rfl, hx147_0, hx148_0, hx148_1⟩ (fun hHeld => ?_); refine bT_ ac_.tab26 ac_.bits26 (fun HT_ HW_ => ?_)
                    generalize wc.drew = w134 at HO_7 HO_17 HO_112001 HO_113001 HO_121001 BK111 BK112 BK120 HB HL148_1 HR148_1 hx147_0 hx148_0 hx148_1 hHeld ⊢
                    refine pu 0 165 #[t_,f_,f_,f_,f_,f_,f_,f_,f_,f_,f_,f_,f_,f_] HT_ ?_
                    refine pu 1 166 #[t_,t_,f_,f_,f_,f_,f_,f_,f_,f_,f_,f_,f_,f_] HT_ ?_
                    refine pu 2 167 #[t_,t_,t_,f_,f_,f_,f_,f_,f_,f_,f_,f_,f_,f_] HT_ ?_
                    refine pu 3 168 #[t_,t_,t_,t_,f_,f_,f_,f_,f_,f_,f_,f_,f_,f_] HT_ ?_
                    refine tk 4 169 #[t_,t_,t_,t_,t_,f_,f_,f_,f_,f_,f_,f_,f_,f_] HT_ HW_ hHeld ?_ (hv := by rintro w' ⟨s0, s1, s2, s3, s4⟩; go_simp; with_reducible rfl)
                    refine pu 5 170 #[t_,t_,t_,t_,t_,t_,f_,f_,f_,f_,f_,f_,f_,f_] HT_ ?_
                    refine tk 6 171 #[t_,t_,t_,t_,t_,t_,t_,f_,f_,f_,f_,f_,f_,f_] HT_ HW_ hHeld ?_ (hv := by rintro w' ⟨s0, s1, s2, s3, s4⟩; go_simp; with_reducible rfl)
                    refine tk 7 172 #[t_,t_,t_,t_,t_,t_,t_,t_,f_,f_,f_,f_,f_,f_] HT_ HW_ hHeld ?_ (hv := by rintro w' ⟨s0, s1, s2, s3, s4⟩; go_simp; with_reducible rfl)
                    refine one_ (i := 8) (N := some 173) #[t_,t_,t_,t_,t_,t_,t_,t_,t_,f_,f_,f_,f_,f_] rfl rfl (cs_ HT_.out (by kernel_rfl)) (by decide) (fun K hK => ?_)
                    (first | refine goes_ Try.func15 (by kernel_rfl) rfl #[.agg #[.string ((af_ t113 (rd t131 x23_6)).f0), .slice A148_1 ((af_ t113 (rd t131 x23_6)).f1).length c148_1], .agg #[.string t116, .slice Ao26 t117.length co26]] (by rfl) rfl rfl (by first | rfl | (simp only [lma_, lmc_, lmn_]; first | done | rfl)) ?_ | refine RPW.cC_ Try.func15 (by kernel_rfl) rfl #[.agg #[.string ((af_ t113 (rd t131 x23_6)).f0), .slice A148_1 ((af_ t113 (rd t131 x23_6)).f1).length c148_1], .agg #[.string t116, .slice Ao26 t117.length co26]] (by rfl) rfl rfl rfl (by first | rfl | (simp only [lma_, lmc_, lmn_]; first | done | rfl)) ?_ | refine RPW.cB_ Try.func15 (by kernel_rfl) rfl #[.agg #[.string ((af_ t113 (rd t131 x23_6)).f0), .slice A148_1 ((af_ t113 (rd t131 x23_6)).f1).length c148_1], .agg #[.string t116, .slice Ao26 t117.length co26]] (by rfl) rfl rfl rfl (by first | rfl | (simp only [lma_, lmc_, lmn_]; first | done | rfl)) ?_)
                    with_reducible refine (ar_.calls kj108 ((af_ t113 (rd t131 x23_6)).f0) _ _ ((af_ t113 (rd t131 x23_6)).f1) t116 _ _ t117 t149 t150 _ ?side1 ?side2 ?side3 ?side4 A126.out).mono ?_
                    (case side1 => repeat (first | exact (by repeat (first | (with_reducible exact HR148_1.out) | (with_reducible first | refine Kd.bn_ ?_ _ | refine Kd.bm_ ?_ _ | refine Kd.bE_ ?_) | exact HR148_1.out)) | (with_reducible first | refine Kd.bn_ ?_ _ | refine Kd.bm_ ?_ _ | refine Kd.bE_ ?_)))
                    (case side2 => exact HC148_1.out)
                    (case side3 => exact cz (Kd.aN_ HO_121001.out).2.2)
                    (case side4 => exact (Kd.aN_ HO_121001.out).2.1)
                    rintro e w135 ⟨rfl, hb⟩
                    have HS2_ := (hb.cell (bl_ _ _ (hHeld.2.2.1))).trans (hHeld.2.2.1)
                    have HS3_ := (hb.cell (bl_ _ _ (hHeld.2.2.2.1))).trans (hHeld.2.2.2.1)
                    have HS4_ := (hb.cell (bl_ _ _ (hHeld.2.2.2.2))).trans (hHeld.2.2.2.2)
                    refine ⟨_, rfl, ?_⟩
                    have n0_ := Aside0.mk (Kd.cd_ (nz HO_7.out) hb)
                    have n1_ := Aside0.mk (Kd.cc_ (rz HO_17.out) hb)
                    have n2_ := Aside0.mk (Kd.aU_ (by (with_reducible repeat (first | apply Kd.ap_ | apply Kd.aq_ | apply Kd.as_)); exact HO_112001.out) hb)
                    have n3_ := Aside0.mk (Kd.aU_ (by (with_reducible repeat (first | apply Kd.ap_ | apply Kd.aq_ | apply Kd.as_)); exact HO_113001.out) hb)
                    have n4_ := Aside0.mk (Kd.aU_ (by (with_reducible repeat (first | apply Kd.ap_ | apply Kd.aq_ | apply Kd.as_)); exact HO_121001.out) hb)
                    have n5_ := Aside0.mk (Kd.V_below (vz HL148_1.out) hb)
                    have n6_ := Aside0.mk (ag_ (kz BK111.out) hb)
                    have n7_ := Aside0.mk (ag_ (kz BK112.out) hb)
                    have n8_ := Aside0.mk (ag_ (kz BK120.out) hb)
                    have n9_ := Aside0.mk (Kd.bi_ (by repeat (first | (with_reducible exact HR148_1.out) | (with_reducible first | refine Kd.bn_ ?_ _ | refine Kd.bm_ ?_ _ | refine Kd.bE_ ?_) | exact HR148_1.out)) hb)
                    have n10_ := Aside0.mk (am_ (bq) hb)
                    clear HO_7
                    clear HO_17
                    clear HO_112001
                    clear HO_113001
                    clear HO_121001
                    clear HL148_1
                    clear BK111
                    clear BK112
                    clear BK120
                    clear HR148_1
                    clear HB
                    have HO_7 := n0_
                    have HO_17 := n1_
                    have HO_112001 := n2_
                    have HO_113001 := n3_
                    have HO_121001 := n4_
                    have HL148_1 := n5_
                    have BK111 := n6_
                    have BK112 := n7_
                    have BK120 := n8_
                    have HR148_1 := n9_
                    have HB := n10_
                    clear n0_ n1_ n2_ n3_ n4_ n5_ n6_ n7_ n8_ n9_ n10_
                    (try clear hb)
                    refine hK.out _ _ ⟨(aM_ BK120.out 0).trans rfl, (aM_ BK120.out 1).trans rfl, HS2_, HS3_, HS4_⟩ (fun hHeld => ?_)
                    clear hK K
                    refine norm_ (a' := ?_) ?_ ?_
                    rotate_left
                    ·show Act.put _ (some 173) _ = _
                     simp only [Act.put, lsa_, ls0_, ls1_, i64_w, i32_w]
                     rfl
                    refine pu 9 164 #[t_,t_,t_,t_,t_,t_,t_,t_,t_,t_,f_,f_,f_,f_] HT_ ?_
                    refine pu 10 174 #[t_,t_,t_,t_,t_,t_,t_,t_,t_,t_,t_,f_,f_,f_] HT_ ?_
                    refine pu 11 175 #[t_,t_,t_,t_,t_,t_,t_,t_,t_,t_,t_,t_,f_,f_] HT_ ?_
                    refine pu 12 24 #[t_,t_,t_,t_,t_,t_,t_,t_,t_,t_,t_,t_,t_,f_] HT_ ?_
                    refine pu 13 25 #[t_,t_,t_,t_,t_,t_,t_,t_,t_,t_,t_,t_,t_,t_] HT_ ?_
                    refine done_ (cl_ HT_.out (by kernel_rfl)) ?_
                    have p151 : 0 ≤ (x23_6 : Int) := of_decide_eq_true (by assumption)
                    have q151 : x23_6 < (t131.length : Int) := of_decide_eq_true (by assumption)
                    obtain ⟨ad151, e151, hx151_0⟩ := Kd.bL_ (Kd.aD_ HO_17.out).2.2 x23_6 p151 q151
                    obtain rfl : ad147 = ad151 := (by injection e151)
                    replace p151 := eq_true p151
                    replace q151 := eq_true q151
                    go_upto_if 199 with (fail)
                    have H := HC133.out
                    clear HC133
                    by_cases c136 : (rd t131 x23_6) = t135
                    rotate_left
                    ·rw [if_neg c136] at H
                     have c136b0 : ((rd t131 x23_6) == t135) = false := beq_eq_false_iff_ne.mpr c136
                     have c136b1 : ((rd t131 x23_6) != t135) = true := bne_iff_ne.mpr c136
                     (first | rw [c136b0] | (simp only [i64_w, i32_w]; rw [c136b0]) | (simp only [c136b1, Bool.not_true, Bool.not_false]) | (simp only [c136b0, Bool.not_true, Bool.not_false]) | skip)
                     obtain rfl := Option.some.inj H
                     go_wp2
                     go_ret
                     exact ⟨by first | rfl | (simp [*, aH_, aG_] <;> rfl), bq⟩
                    rw [if_pos c136] at H
                    have c136b0 : ((rd t131 x23_6) == t135) = true := beq_iff_eq.mpr c136
                    have c136b1 : ((rd t131 x23_6) != t135) = false := bne_eq_false_iff_eq.mpr c136
                    clear c136
                    (first | rw [c136b0] | (simp only [i64_w, i32_w]; rw [c136b0]) | (simp only [c136b1, Bool.not_true, Bool.not_false]) | (simp only [c136b0, Bool.not_true, Bool.not_false]) | skip)
                    have H' := Aside0.mk H
                    clear H
                    go_wp2
                    go_roundg kj108
                    case measure => have := HJ2.out; have := HJ11.out; have := HJ34.out; have := HJ41.out; have := HJ98.out; have := HK6.out; have := HJ108.out; omega
                    case rel => exact ⟨(t149), (wrap64 (x23_6 + 1)), (by first | rfl | (simp; done) | (simp [*]; done)), (by first | rfl | (simp; done) | (simp [*]; done)), H', ⟨by have := HJ2.out; have := HJ11.out; have := HJ34.out; have := HJ41.out; have := HJ98.out; have := HK6.out; have := HJ108.out; omega⟩, ⟨nz HO_7.out⟩, ⟨rz HO_17.out⟩, ⟨by (with_reducible repeat (first | apply Kd.ap_ | apply Kd.aq_ | apply Kd.as_)); exact HO_112001.out⟩, ⟨by (with_reducible repeat (first | apply Kd.ap_ | apply Kd.aq_ | apply Kd.as_)); exact HO_113001.out⟩, ⟨by (with_reducible repeat (first | apply Kd.ap_ | apply Kd.aq_ | apply Kd.as_)); exact HO_121001.out⟩, ⟨by (with_reducible repeat (first | refine aK_ ?_ _ | refine ay_ ?_ | refine aI_ ?_ _)); exact BK111.out⟩, ⟨by (with_reducible repeat (first | refine aK_ ?_ _ | refine ay_ ?_ | refine aI_ ?_ _)); exact BK112.out⟩, ⟨by (with_reducible repeat (first | refine aK_ ?_ _ | refine ay_ ?_ | refine aI_ ?_ _)); exact BK120.out⟩, ⟨bq⟩⟩
                   rw [if_pos c128] at H
                   have c128b0 : decide (t149 < x22_6) = true := decide_eq_true c128
                   clear c128
                   obtain rfl := Option.some.inj H
                   try go_wp2
                   (try (rw [ce_ wc]; generalize hq_ : World.drewN wc _ = wc; have n0_ : Aside0 (Kd.Q (Kd.int .i64) 2 wc w.heap.size (fun k_ => (some k_ ≠ (.slice Ao110 t131.length co110 : Value).ownBlock ∧ (some k_ ≠ (.slice Ao20 t108.length co20 : Value).ownBlock ∧ some k_ ≠ (.slice Ao26 t117.length co26 : Value).ownBlock))) (.slice Ao18 t104.length co18) t104) := ⟨by rw [← hq_]; exact (by (with_reducible repeat (first | apply Kd.ap_ | apply Kd.aq_ | apply Kd.as_)); exact HO_112001.out)⟩; have n1_ : Aside0 (Kd.Q (Kd.int .i64) 2 wc w.heap.size (fun k_ => (some k_ ≠ (.slice Ao110 t131.length co110 : Value).ownBlock ∧ (some k_ ≠ (.slice Ao18 t104.length co18 : Value).ownBlock ∧ some k_ ≠ (.slice Ao26 t117.length co26 : Value).ownBlock))) (.slice Ao20 t108.length co20) t108) := ⟨by rw [← hq_]; exact (by (with_reducible repeat (first | apply Kd.ap_ | apply Kd.aq_ | apply Kd.as_)); exact HO_113001.out)⟩; have n2_ : Aside0 (Kd.Q (Kd.int .i64) 2 wc w.heap.size (fun k_ => (some k_ ≠ (.slice Ao110 t131.length co110 : Value).ownBlock ∧ (some k_ ≠ (.slice Ao18 t104.length co18 : Value).ownBlock ∧ some k_ ≠ (.slice Ao20 t108.length co20 : Value).ownBlock))) (.slice Ao26 t117.length co26) t117) := ⟨by rw [← hq_]; exact (by (with_reducible repeat (first | apply Kd.ap_ | apply Kd.aq_ | apply Kd.as_)); exact HO_121001.out)⟩; have n3_ : Aside0 (Kd.R (Kd.int .i64) 2 wc w.heap.size (fun k_ => (some k_ ≠ (.slice Ao18 t104.length co18 : Value).ownBlock ∧ (some k_ ≠ (.slice Ao20 t108.length co20 : Value).ownBlock ∧ some k_ ≠ (.slice Ao26 t117.length co26 : Value).ownBlock))) (.slice Ao110 t131.length co110) t131) := ⟨by rw [← hq_]; exact (rz HO_17.out)⟩; have n4_ : Aside0 (Kd.N k28 28 wc w.heap.size (fun k_ => (some k_ ≠ (.slice Ao110 t131.length co110 : Value).ownBlock ∧ (some k_ ≠ (.slice Ao18 t104.length co18 : Value).ownBlock ∧ (some k_ ≠ (.slice Ao20 t108.length co20 : Value).ownBlock ∧ (some k_ ≠ (.slice Ao26 t117.length co26 : Value).ownBlock ∧ (k_ ≠ gb111 ∧ (k_ ≠ gb112 ∧ k_ ≠ gb120))))))) (.slice Ao95 t113.length co95) t113) := ⟨by rw [← hq_]; exact (nz HO_7.out)⟩; have n5_ : Aside0 (wc.heap[gb111]? = some (.cells #[.string t103, .slice Ao18 t104.length co18] 28 (0, 0))) := ⟨by rw [← hq_]; exact (kz BK111.out)⟩; have n6_ : Aside0 (wc.heap[gb112]? = some (.cells #[.string t107, .slice Ao20 t108.length co20] 28 (0, 0))) := ⟨by rw [← hq_]; exact (kz BK112.out)⟩; have n7_ : Aside0 (wc.heap[gb120]? = some (.cells #[.string t116, .slice Ao26 t117.length co26] 28 (0, 0))) := ⟨by rw [← hq_]; exact (kz BK120.out)⟩; have n8_ : Aside0 (Below w.heap.size w wc) := ⟨by rw [← hq_]; exact (bq)⟩; clear HO_112001 HO_113001 HO_121001 HO_17 HO_7 BK111 BK112 BK120 HB hq_; have HO_112001 := n0_; have HO_113001 := n1_; have HO_121001 := n2_; have HO_17 := n3_; have HO_7 := n4_; have BK111 := n5_; have BK112 := n6_; have BK120 := n7_; have HB := n8_; clear n0_ n1_ n2_ n3_ n4_ n5_ n6_ n7_ n8_))
                   have n0_ := Aside0.mk (Kd.N_drew HO_7.out)
                   have n1_ := Aside0.mk (Kd.cu_ HO_17.out)
                   have n2_ := Aside0.mk (Kd.as_ HO_112001.out)
                   have n3_ := Aside0.mk (Kd.as_ HO_113001.out)
                   have n4_ := Aside0.mk (Kd.as_ HO_121001.out)
                   have n5_ := Aside0.mk (ay_ BK111.out)
                   have n6_ := Aside0.mk (ay_ BK112.out)
                   have n7_ := Aside0.mk (ay_ BK120.out)
                   have n8_ := Aside0.mk (bD_ HB.out)
                   clear HO_7
                   clear HO_17
                   clear HO_112001
                   clear HO_113001
                   clear HO_121001
                   clear BK111
                   clear BK112
                   clear BK120
                   clear HB
                   have HO_7 := n0_
                   have HO_17 := n1_
                   have HO_112001 := n2_
                   have HO_113001 := n3_
                   have HO_121001 := n4_
                   have BK111 := n5_
                   have BK112 := n6_
                   have BK120 := n7_
                   have HB := n8_
                   clear n0_ n1_ n2_ n3_ n4_ n5_ n6_ n7_ n8_
                   have p147 : 0 ≤ (x23_6 : Int) := of_decide_eq_true (by assumption)
                   have q147 : x23_6 < (t131.length : Int) := of_decide_eq_true (by assumption)
                   obtain ⟨ad147, e147, hx147_0⟩ := Kd.bL_ (Kd.aD_ HO_17.out).2.2 x23_6 p147 q147
                   cases e147
                   replace p147 := eq_true p147
                   replace q147 := eq_true q147
                   have p148 : 0 ≤ ((rd t131 x23_6) : Int) := of_decide_eq_true (by assumption)
                   have q148 : (rd t131 x23_6) < (t113.length : Int) := of_decide_eq_true (by assumption)
                   obtain ⟨ad148, A148_1, c148_1, e148, hx148_0, hx148_1, hl148_1, hi148_1⟩ := bY_ (Kd.ck_ HO_7.out).2.2 (rd t131 x23_6) p148 q148
                   cases e148
                   obtain ⟨ce148, hce148, hMe148, hcc148⟩ := Kd.N_get HO_7.out z28 (rd t131 x23_6) p148 (by first | exact q148 | exact of_decide_eq_true (by assumption) | (have e_ := (Kd.ck_ HO_7.out).1; omega))
                   obtain ⟨ua148_1, uc148_1, rfl, ul148_1, ge148_1⟩ := k28_openF hMe148
                   have hv148_1 := hcc148 1 _ rfl
                   rw [add_field _ _ 1 (by omega)] at hv148_1
                   replace hv148_1 := Option.some.inj (hv148_1.symm.trans hx148_1)
                   injection hv148_1 with hva_ hvn_ hvc_
                   rw [hva_] at ge148_1
                   rw [hvc_] at ul148_1
                   have HL148_1 := Aside0.mk (show Kd.V (Kd.int .i64) 2 _ w.heap.size _ _ ((af_ t113 (rd t131 x23_6)).f1) from Kd.V_mk ul148_1 ge148_1)
                   clear hva_ hvn_ hvc_ ge148_1 ul148_1
                   clear hcc148 hce148
                   have HR148_1 := Aside0.mk hi148_1
                   have HC148_1 := Aside0.mk hl148_1
                   clear hi148_1 hl148_1
                   replace p148 := eq_true p148
                   replace q148 := eq_true q148
                   refine cv_ (n := 14) (S := fun w' => w'.cell? ⟨gb120, 0, none⟩ = some (.string t116) ∧ w'.cell? ⟨gb120, 1, none⟩ = some (.slice Ao26 t117.length co26) ∧ w'.cell? (ad147.add (x23_6).toNat) = some (.int .i64 (rd t131 x23_6)) ∧ w'.cell? (ad148.add (((rd t131 x23_6)).toNat * 2)) = some (.string ((af_ t113 (rd t131 x23_6)).f0)) ∧ w'.cell? ⟨(ad148.add (((rd t131 x23_6)).toNat * 2)).block, (ad148.add (((rd t131 x23_6)).toNat * 2)).off + 1, none⟩ = some (.slice A148_1 ((af_ t113 (rd t131 x23_6)).f1).length c148_1)) (ds := []) #[f_,f_,f_,f_,f_,f_,f_,f_,f_,f_,f_,f_,f_,f_] (by kernel_rfl) rfl rfl ⟨(aM_ BK120.out 0).trans rfl, (aM_ BK120.out 1).trans rfl, hx147_0, hx148_0, hx148_1⟩ (fun hHeld => ?_); refine bT_ ac_.tab26 ac_.bits26 (fun HT_ HW_ => ?_)
                   generalize wc.drew = w129 at HO_7 HO_17 HO_112001 HO_113001 HO_121001 BK111 BK112 BK120 HB HL148_1 HR148_1 hx147_0 hx148_0 hx148_1 hHeld ⊢
                   refine pu 0 165 #[t_,f_,f_,f_,f_,f_,f_,f_,f_,f_,f_,f_,f_,f_] HT_ ?_
                   refine pu 1 166 #[t_,t_,f_,f_,f_,f_,f_,f_,f_,f_,f_,f_,f_,f_] HT_ ?_
                   refine pu 2 167 #[t_,t_,t_,f_,f_,f_,f_,f_,f_,f_,f_,f_,f_,f_] HT_ ?_
                   refine pu 3 168 #[t_,t_,t_,t_,f_,f_,f_,f_,f_,f_,f_,f_,f_,f_] HT_ ?_
                   refine tk 4 169 #[t_,t_,t_,t_,t_,f_,f_,f_,f_,f_,f_,f_,f_,f_] HT_ HW_ hHeld ?_ (hv := by rintro w' ⟨s0, s1, s2, s3, s4⟩; go_simp; with_reducible rfl)
                   refine pu 5 170 #[t_,t_,t_,t_,t_,t_,f_,f_,f_,f_,f_,f_,f_,f_] HT_ ?_
                   refine tk 6 171 #[t_,t_,t_,t_,t_,t_,t_,f_,f_,f_,f_,f_,f_,f_] HT_ HW_ hHeld ?_ (hv := by rintro w' ⟨s0, s1, s2, s3, s4⟩; go_simp; with_reducible rfl)
                   refine tk 7 172 #[t_,t_,t_,t_,t_,t_,t_,t_,f_,f_,f_,f_,f_,f_] HT_ HW_ hHeld ?_ (hv := by rintro w' ⟨s0, s1, s2, s3, s4⟩; go_simp; with_reducible rfl)
                   refine one_ (i := 8) (N := some 173) #[t_,t_,t_,t_,t_,t_,t_,t_,t_,f_,f_,f_,f_,f_] rfl rfl (cs_ HT_.out (by kernel_rfl)) (by decide) (fun K hK => ?_)
                   (first | refine goes_ Try.func15 (by kernel_rfl) rfl #[.agg #[.string ((af_ t113 (rd t131 x23_6)).f0), .slice A148_1 ((af_ t113 (rd t131 x23_6)).f1).length c148_1], .agg #[.string t116, .slice Ao26 t117.length co26]] (by rfl) rfl rfl (by first | rfl | (simp only [lma_, lmc_, lmn_]; first | done | rfl)) ?_ | refine RPW.cC_ Try.func15 (by kernel_rfl) rfl #[.agg #[.string ((af_ t113 (rd t131 x23_6)).f0), .slice A148_1 ((af_ t113 (rd t131 x23_6)).f1).length c148_1], .agg #[.string t116, .slice Ao26 t117.length co26]] (by rfl) rfl rfl rfl (by first | rfl | (simp only [lma_, lmc_, lmn_]; first | done | rfl)) ?_ | refine RPW.cB_ Try.func15 (by kernel_rfl) rfl #[.agg #[.string ((af_ t113 (rd t131 x23_6)).f0), .slice A148_1 ((af_ t113 (rd t131 x23_6)).f1).length c148_1], .agg #[.string t116, .slice Ao26 t117.length co26]] (by rfl) rfl rfl rfl (by first | rfl | (simp only [lma_, lmc_, lmn_]; first | done | rfl)) ?_)
                   with_reducible refine (ar_.calls kj108 ((af_ t113 (rd t131 x23_6)).f0) _ _ ((af_ t113 (rd t131 x23_6)).f1) t116 _ _ t117 t149 t150 _ ?side1 ?side2 ?side3 ?side4 A126.out).mono ?_
                   (case side1 => repeat (first | exact (by repeat (first | (with_reducible exact HR148_1.out) | (with_reducible first | refine Kd.bn_ ?_ _ | refine Kd.bm_ ?_ _ | refine Kd.bE_ ?_) | exact HR148_1.out)) | (with_reducible first | refine Kd.bn_ ?_ _ | refine Kd.bm_ ?_ _ | refine Kd.bE_ ?_)))
                   (case side2 => exact HC148_1.out)
                   (case side3 => exact cz (Kd.aN_ HO_121001.out).2.2)
                   (case side4 => exact (Kd.aN_ HO_121001.out).2.1)
                   rintro e w130 ⟨rfl, hb⟩
                   have HS2_ := (hb.cell (bl_ _ _ (hHeld.2.2.1))).trans (hHeld.2.2.1)
                   have HS3_ := (hb.cell (bl_ _ _ (hHeld.2.2.2.1))).trans (hHeld.2.2.2.1)
                   have HS4_ := (hb.cell (bl_ _ _ (hHeld.2.2.2.2))).trans (hHeld.2.2.2.2)
                   refine ⟨_, rfl, ?_⟩
                   have n0_ := Aside0.mk (Kd.cd_ (nz HO_7.out) hb)
                   have n1_ := Aside0.mk (Kd.cc_ (rz HO_17.out) hb)
                   have n2_ := Aside0.mk (Kd.aU_ (by (with_reducible repeat (first | apply Kd.ap_ | apply Kd.aq_ | apply Kd.as_)); exact HO_112001.out) hb)
                   have n3_ := Aside0.mk (Kd.aU_ (by (with_reducible repeat (first | apply Kd.ap_ | apply Kd.aq_ | apply Kd.as_)); exact HO_113001.out) hb)
                   have n4_ := Aside0.mk (Kd.aU_ (by (with_reducible repeat (first | apply Kd.ap_ | apply Kd.aq_ | apply Kd.as_)); exact HO_121001.out) hb)
                   have n5_ := Aside0.mk (Kd.V_below (vz HL148_1.out) hb)
                   have n6_ := Aside0.mk (ag_ (kz BK111.out) hb)
                   have n7_ := Aside0.mk (ag_ (kz BK112.out) hb)
                   have n8_ := Aside0.mk (ag_ (kz BK120.out) hb)
                   have n9_ := Aside0.mk (Kd.bi_ (by repeat (first | (with_reducible exact HR148_1.out) | (with_reducible first | refine Kd.bn_ ?_ _ | refine Kd.bm_ ?_ _ | refine Kd.bE_ ?_) | exact HR148_1.out)) hb)
                   have n10_ := Aside0.mk (am_ (bq) hb)
                   clear HO_7
                   clear HO_17
                   clear HO_112001
                   clear HO_113001
                   clear HO_121001
                   clear HL148_1
                   clear BK111
                   clear BK112
                   clear BK120
                   clear HR148_1
                   clear HB
                   have HO_7 := n0_
                   have HO_17 := n1_
                   have HO_112001 := n2_
                   have HO_113001 := n3_
                   have HO_121001 := n4_
                   have HL148_1 := n5_
                   have BK111 := n6_
                   have BK112 := n7_
                   have BK120 := n8_
                   have HR148_1 := n9_
                   have HB := n10_
                   clear n0_ n1_ n2_ n3_ n4_ n5_ n6_ n7_ n8_ n9_ n10_
                   (try clear hb)
                   refine hK.out _ _ ⟨(aM_ BK120.out 0).trans rfl, (aM_ BK120.out 1).trans rfl, HS2_, HS3_, HS4_⟩ (fun hHeld => ?_)
                   clear hK K
                   refine norm_ (a' := ?_) ?_ ?_
                   rotate_left
                   ·show Act.put _ (some 173) _ = _
                    simp only [Act.put, lsa_, ls0_, ls1_, i64_w, i32_w]
                    rfl
                   refine pu 9 164 #[t_,t_,t_,t_,t_,t_,t_,t_,t_,t_,f_,f_,f_,f_] HT_ ?_
                   refine pu 10 174 #[t_,t_,t_,t_,t_,t_,t_,t_,t_,t_,t_,f_,f_,f_] HT_ ?_
                   refine pu 11 175 #[t_,t_,t_,t_,t_,t_,t_,t_,t_,t_,t_,t_,f_,f_] HT_ ?_
                   refine pu 12 24 #[t_,t_,t_,t_,t_,t_,t_,t_,t_,t_,t_,t_,t_,f_] HT_ ?_
                   refine pu 13 25 #[t_,t_,t_,t_,t_,t_,t_,t_,t_,t_,t_,t_,t_,t_] HT_ ?_
                   refine done_ (cl_ HT_.out (by kernel_rfl)) ?_
                   try go_wp2
                   go_ret
                   exact ⟨by first | rfl | (simp [*, aH_, aG_] <;> rfl), bq⟩
                  subst c121
                  have H1 : (some false) = some r := by rw [if_pos rfl] at H; exact H
                  clear H
                  have H := H1
                  clear H1
                  obtain rfl := Option.some.inj H
                  go_wp2
                  go_ret
                  exact ⟨by first | rfl | (simp [*, aH_, aG_] <;> rfl), bq⟩
             subst c107
             have H1 : (some false) = some r := by rw [if_pos rfl] at H; exact H
             clear H
             have H := H1
             clear H1
             obtain rfl := Option.some.inj H
             go_wp2
             go_ret
             exact ⟨by first | rfl | (simp [*, aH_, aG_] <;> rfl), bq⟩
      subst c34
      have H1 : (some false) = some r := by rw [if_pos rfl] at H; exact H
      clear H
      have H := H1
      clear H1
      obtain rfl := Option.some.inj H
      go_wp2
      go_ret
      exact ⟨by first | rfl | (simp [*, aH_, aG_] <;> rfl), bq⟩
   subst c7
   have H1 : (some true) = some r := by rw [if_pos rfl] at H; exact H
   clear H
   have H := H1
   clear H1
   obtain rfl := Option.some.inj H
   go_wp2
   go_ret
   exact ⟨by first | rfl | (simp [*, aH_, aG_] <;> rfl), bz HB.out⟩
def ac_.Pure : Prop := ∀ (l0 : List Int) (l1 : List Int), l0.length ≤ maxLen → l0.length * 1 ≤ 140737488351232 → (∀ x ∈ l0, (Lit.int .u8 x).wf = true) → l1.length ≤ maxLen → l1.length * 1 ≤ 140737488351232 → (∀ x ∈ l1, (Lit.int .u8 x).wf = true) → ∃ k, ac_.f k l0 l1 = some true
theorem ac_.walk (P : ac_.Pure) (a0 : Option Addr) (len0 cap0 : Nat) (z0 : List Int) (a1 : Option Addr) (len1 cap1 : Nat) (z1 : List Int) (w : World) (w0 : (a0 = none ∧ len0 = 0 ∧ cap0 = 0 ∧ z0 = []) ∨ ∃ x, a0 = some x ∧ len0 ≤ cap0 ∧ cap0 ≤ maxLen ∧ z0.length = cap0 ∧ (∀ i, i < z0.length → w.cell? (x.add i) = some (.int .u8 (z0.getD i 0))) ∧ ∀ n ∈ z0, (Lit.int .u8 n).wf = true) (y0 : len0 * 1 ≤ 140737488351232) (w1 : (a1 = none ∧ len1 = 0 ∧ cap1 = 0 ∧ z1 = []) ∨ ∃ x, a1 = some x ∧ len1 ≤ cap1 ∧ cap1 ≤ maxLen ∧ z1.length = cap1 ∧ (∀ i, i < z1.length → w.cell? (x.add i) = some (.int .u8 (z1.getD i 0))) ∧ ∀ n ∈ z1, (Lit.int .u8 n).wf = true) (y1 : len1 * 1 ≤ 140737488351232) :
  Calls Try.prog 8 #[.slice a0 len0 cap0, .slice a1 len1 cap1] w fun e w' => e = .returned (.bool true) ∧ Below w.heap.size w w' := by
 obtain ⟨l0, rfl, hr0, hm0, hw0, hc0⟩ := bS_.ofRowC w0
 obtain ⟨l1, rfl, hr1, hm1, hw1, hc1⟩ := bS_.ofRowC w1
 obtain ⟨k, h⟩ := P l0 l1 hm0 y0 hw0 hm1 y1 hw1
 refine (ac_.calls k _ _ l0 _ _ l1 true w (Kd.C_of_reads (d := (0 : Int)) (h1 := fun _ => rfl) hr0) hc0 (Kd.C_of_reads (d := (0 : Int)) (h1 := fun _ => rfl) hr1) hc1 h).mono ?_
 rintro e w' ⟨rfl, hd⟩
 exact ⟨rfl, hd⟩
def aV_.l0 : Nat → List (S28) → Int → Option (Bool)
 | 0, _, _ => none
 | k + 1, x0, x3 => if x3 < (x0.length : Int) then (if 0 ≤ x3 then ((aB_.f k [af_ x0 x3]).bind fun t102 => (if t102 = true then (if x3 > 0 then (if 0 ≤ (wrap64 (x3 - 1)) then (if (wrap64 (x3 - 1)) < (x0.length : Int) then (if ((Op.bytesLess (((af_ x0 (wrap64 (x3 - 1))).f0).toList) (((af_ x0 x3).f0).toList)) = true) then (aV_.l0 k x0 (wrap64 (x3 + 1))) else (some false)) else (none)) else (none)) else (aV_.l0 k x0 (wrap64 (x3 + 1)))) else (some false))) else (none)) else (some (decide ((x0.length : Int) ≤ 16)))
def aV_.f (k : Nat) (l0 : List (S28)) : Option (Bool) := aV_.l0 k l0 0
set_option maxHeartbeats 8000000 in
set_option maxRecDepth 100000 in
theorem aV_.calls (k : Nat) (A0 : Option Addr) (c0 : Nat) (l0 : List (S28)) (r : Bool) (w : World) (hr0 : Kd.C k28 w A0 l0.length l0) (hc0 : l0.length ≤ c0) (h : aV_.f k l0 = some r) :
  Calls Try.prog 54 #[.slice A0 l0.length c0] w fun e w' => e = .returned (.bool r) ∧ ax_ w w' := by
 have HR0 := Aside0.mk hr0
 have HC0 := Aside0.mk hc0
 clear hr0 hc0
 have H : (aV_.l0 k l0 0) = some r := h
 clear h
 have H' := Aside0.mk H
 clear H
 go_enter Try.func54, Try.ntmps54
 go_wp2
 repeat (go_quiet (fail); try go_wp2)
 (try simp only [Act.put, lsa_, ls0_, ls1_])
 go_loopg [3] k (fun kq v3 w' => ∃ (x3_1 : Int), v3 = .int .i64 x3_1 ∧ Aside0 (aV_.l0 kq l0 x3_1 = some r) ∧ Aside0 (kq ≤ k) ∧ ax_ w w')
 case atStart => exact ⟨(0), (by first | rfl | (simp; done) | (simp [*]; done)), H', ⟨Nat.le_refl _⟩, by repeat (first | exact ax_.refl _ | apply ax_.step)⟩
 case round =>
  clear H'
  obtain ⟨x3_1, rfl, HA, HK1, ⟨m1, rfl⟩⟩ := hrel
  cases gk with
  | zero => exact absurd HA.out (by simp [aV_.l0])
  | succ k1 =>
   have H := HA.out
   clear HA
   simp only [aV_.l0] at H
   by_cases c2 : x3_1 < (l0.length : Int)
   rotate_left
   ·rw [if_neg c2] at H
    have c2b0 : decide (x3_1 < (l0.length : Int)) = false := decide_eq_false c2
    clear c2
    obtain rfl := Option.some.inj H
    go_wp2
    repeat (go_quiet (fail); try go_wp2)
    go_ret
    exact ⟨by first | rfl | (simp; done) | (simp [*]; done), by repeat (first | exact ax_.refl _ | apply ax_.step)⟩
   rw [if_pos c2] at H
   have c2b0 : decide (x3_1 < (l0.length : Int)) = true := decide_eq_true c2
   clear c2
   by_cases c3 : 0 ≤ x3_1
   rotate_left
   ·rw [if_neg c3] at H
    exact absurd H (by simp)
   rw [if_pos c3] at H
   have c3b0 : decide (0 ≤ x3_1) = true := decide_eq_true c3
   clear c3
   replace H := Option.bind_eq_some_iff.mp H
   obtain ⟨t102, A40, H⟩ := H
   (try dsimp only at H)
   have A4 := Aside0.mk A40
   clear A40
   by_cases c5 : t102 = true
   rotate_left
   ·replace c5 := Bool.eq_false_iff.mpr c5
    subst c5
    have H1 : (some false) = some r := by rw [if_neg (show ¬ (false = true) by decide)] at H; exact H
    clear H
    have H := H1
    clear H1
    obtain rfl := Option.some.inj H
    have p101 : 0 ≤ (x3_1 : Int) := of_decide_eq_true (by assumption)
    have q101 : x3_1 < (l0.length : Int) := of_decide_eq_true (by assumption)
    obtain ⟨ad101, A101_1, c101_1, e101, hx101_0, hx101_1, hl101_1, hi101_1⟩ := bY_ HR0.out x3_1 p101 q101
    cases e101
    have HR101_1 := Aside0.mk hi101_1
    have HC101_1 := Aside0.mk hl101_1
    clear hi101_1 hl101_1
    replace p101 := eq_true p101
    replace q101 := eq_true q101
    go_wp2_with (first | (go_at_call 50; (with_reducible refine (aB_.calls k1 _ [af_ l0 x3_1] false _ ?side1 A4.out).mono ?_); (case side1 => exact (RPW.C_elem (ad := ad101) (n := l0.length) (xs := l0) z28 (i := x3_1) (by first | exact of_eq_true p101 | exact p101 | omega) (by first | exact of_eq_true q101 | exact q101 | omega) (by first | exact HR0.out | exact cz HR0.out))); rintro e w' ⟨rfl, ⟨nd, rfl⟩⟩; (try first | exact ⟨rfl, _, World.drewN_drewN _ _ _⟩ | exact ⟨rfl, _, Eq.trans (World.drewN_drewN _ _ _) (congrArg (World.drewN _) (Nat.add_assoc _ _ _))⟩)))
    repeat (go_quiet (first | (go_at_call 50; (with_reducible refine (aB_.calls k1 _ [af_ l0 x3_1] false _ ?side1 A4.out).mono ?_); (case side1 => exact (RPW.C_elem (ad := ad101) (n := l0.length) (xs := l0) z28 (i := x3_1) (by first | exact of_eq_true p101 | exact p101 | omega) (by first | exact of_eq_true q101 | exact q101 | omega) (by first | exact HR0.out | exact cz HR0.out))); rintro e w' ⟨rfl, ⟨nd, rfl⟩⟩; (try first | exact ⟨rfl, _, World.drewN_drewN _ _ _⟩ | exact ⟨rfl, _, Eq.trans (World.drewN_drewN _ _ _) (congrArg (World.drewN _) (Nat.add_assoc _ _ _))⟩))); try go_wp2_with (first | (go_at_call 50; (with_reducible refine (aB_.calls k1 _ [af_ l0 x3_1] false _ ?side1 A4.out).mono ?_); (case side1 => exact (RPW.C_elem (ad := ad101) (n := l0.length) (xs := l0) z28 (i := x3_1) (by first | exact of_eq_true p101 | exact p101 | omega) (by first | exact of_eq_true q101 | exact q101 | omega) (by first | exact HR0.out | exact cz HR0.out))); rintro e w' ⟨rfl, ⟨nd, rfl⟩⟩; (try first | exact ⟨rfl, _, World.drewN_drewN _ _ _⟩ | exact ⟨rfl, _, Eq.trans (World.drewN_drewN _ _ _) (congrArg (World.drewN _) (Nat.add_assoc _ _ _))⟩))))
    go_ret
    exact ⟨by first | rfl | (simp; done) | (simp [*]; done), by repeat (first | exact ax_.refl _ | apply ax_.step)⟩
   subst c5
   have H1 : (if x3_1 > 0 then (if 0 ≤ (wrap64 (x3_1 - 1)) then (if (wrap64 (x3_1 - 1)) < (l0.length : Int) then (if ((Op.bytesLess (((af_ l0 (wrap64 (x3_1 - 1))).f0).toList) (((af_ l0 x3_1).f0).toList)) = true) then (aV_.l0 k1 l0 (wrap64 (x3_1 + 1))) else (some false)) else (none)) else (none)) else (aV_.l0 k1 l0 (wrap64 (x3_1 + 1)))) = some r := by rw [if_pos rfl] at H; exact H
   clear H
   have H := H1
   clear H1
   by_cases c6 : x3_1 > 0
   rotate_left
   ·rw [if_neg c6] at H
    have c6b0 : decide (0 < x3_1) = false := decide_eq_false c6
    clear c6
    have H' := Aside0.mk H
    clear H
    have p101 : 0 ≤ (x3_1 : Int) := of_decide_eq_true (by assumption)
    have q101 : x3_1 < (l0.length : Int) := of_decide_eq_true (by assumption)
    obtain ⟨ad101, A101_1, c101_1, e101, hx101_0, hx101_1, hl101_1, hi101_1⟩ := bY_ HR0.out x3_1 p101 q101
    cases e101
    have HR101_1 := Aside0.mk hi101_1
    have HC101_1 := Aside0.mk hl101_1
    clear hi101_1 hl101_1
    replace p101 := eq_true p101
    replace q101 := eq_true q101
    go_wp2_with (first | (go_at_call 50; (with_reducible refine (aB_.calls k1 _ [af_ l0 x3_1] true _ ?side1 A4.out).mono ?_); (case side1 => exact (RPW.C_elem (ad := ad101) (n := l0.length) (xs := l0) z28 (i := x3_1) (by first | exact of_eq_true p101 | exact p101 | omega) (by first | exact of_eq_true q101 | exact q101 | omega) (by first | exact HR0.out | exact cz HR0.out))); rintro e w' ⟨rfl, ⟨nd, rfl⟩⟩; (try first | exact ⟨rfl, _, World.drewN_drewN _ _ _⟩ | exact ⟨rfl, _, Eq.trans (World.drewN_drewN _ _ _) (congrArg (World.drewN _) (Nat.add_assoc _ _ _))⟩)))
    repeat (go_quiet (first | (go_at_call 50; (with_reducible refine (aB_.calls k1 _ [af_ l0 x3_1] true _ ?side1 A4.out).mono ?_); (case side1 => exact (RPW.C_elem (ad := ad101) (n := l0.length) (xs := l0) z28 (i := x3_1) (by first | exact of_eq_true p101 | exact p101 | omega) (by first | exact of_eq_true q101 | exact q101 | omega) (by first | exact HR0.out | exact cz HR0.out))); rintro e w' ⟨rfl, ⟨nd, rfl⟩⟩; (try first | exact ⟨rfl, _, World.drewN_drewN _ _ _⟩ | exact ⟨rfl, _, Eq.trans (World.drewN_drewN _ _ _) (congrArg (World.drewN _) (Nat.add_assoc _ _ _))⟩))); try go_wp2_with (first | (go_at_call 50; (with_reducible refine (aB_.calls k1 _ [af_ l0 x3_1] true _ ?side1 A4.out).mono ?_); (case side1 => exact (RPW.C_elem (ad := ad101) (n := l0.length) (xs := l0) z28 (i := x3_1) (by first | exact of_eq_true p101 | exact p101 | omega) (by first | exact of_eq_true q101 | exact q101 | omega) (by first | exact HR0.out | exact cz HR0.out))); rintro e w' ⟨rfl, ⟨nd, rfl⟩⟩; (try first | exact ⟨rfl, _, World.drewN_drewN _ _ _⟩ | exact ⟨rfl, _, Eq.trans (World.drewN_drewN _ _ _) (congrArg (World.drewN _) (Nat.add_assoc _ _ _))⟩))))
    go_roundg k1
    case measure => have := HK1.out; omega
    case rel => exact ⟨(wrap64 (x3_1 + 1)), (by first | rfl | (simp; done) | (simp [*]; done)), H', ⟨by have := HK1.out; omega⟩, by repeat (first | exact ax_.refl _ | apply ax_.step)⟩
   rw [if_pos c6] at H
   have c6b0 : decide (0 < x3_1) = true := decide_eq_true c6
   clear c6
   obtain ⟨ji7, hji7⟩ : ∃ j_ : Int, (wrap64 (x3_1 - 1)) = j_ := ⟨_, rfl⟩
   replace H : (if 0 ≤ (ji7) then (if (ji7) < (l0.length : Int) then (if ((Op.bytesLess (((af_ l0 (ji7)).f0).toList) (((af_ l0 x3_1).f0).toList)) = true) then (aV_.l0 k1 l0 (wrap64 (x3_1 + 1))) else (some false)) else (none)) else (none)) = some r := by first | (rw [hji7] at H; exact H) | (simp only [hji7] at H ⊢; exact H)
   (try rw [hji7] at A4)
   have hji7w : (IntKind.i64.wrap (x3_1 - 1)) = ji7 := (i64_w _).trans hji7
   by_cases c8 : 0 ≤ (ji7)
   rotate_left
   ·rw [if_neg c8] at H
    exact absurd H (by simp)
   rw [if_pos c8] at H
   have c8b0 : decide (0 ≤ (ji7)) = true := decide_eq_true c8
   clear c8
   by_cases c9 : (ji7) < (l0.length : Int)
   rotate_left
   ·rw [if_neg c9] at H
    exact absurd H (by simp)
   rw [if_pos c9] at H
   have c9b0 : decide ((ji7) < (l0.length : Int)) = true := decide_eq_true c9
   clear c9
   have HC10 := Aside0.mk H
   clear H
   have p101 : 0 ≤ (x3_1 : Int) := of_decide_eq_true (by assumption)
   have q101 : x3_1 < (l0.length : Int) := of_decide_eq_true (by assumption)
   obtain ⟨ad101, A101_1, c101_1, e101, hx101_0, hx101_1, hl101_1, hi101_1⟩ := bY_ HR0.out x3_1 p101 q101
   cases e101
   have HR101_1 := Aside0.mk hi101_1
   have HC101_1 := Aside0.mk hl101_1
   clear hi101_1 hl101_1
   replace p101 := eq_true p101
   replace q101 := eq_true q101
   have p103 : 0 ≤ ((ji7) : Int) := of_decide_eq_true (by assumption)
   have q103 : (ji7) < (l0.length : Int) := of_decide_eq_true (by assumption)
   obtain ⟨ad103, A103_1, c103_1, e103, hx103_0, hx103_1, hl103_1, hi103_1⟩ := bY_ HR0.out (ji7) p103 q103
   obtain rfl : ad101 = ad103 := (by injection e103)
   have HR103_1 := Aside0.mk hi103_1
   have HC103_1 := Aside0.mk hl103_1
   clear hi103_1 hl103_1
   replace p103 := eq_true p103
   replace q103 := eq_true q103
   have p104 : 0 ≤ (x3_1 : Int) := of_decide_eq_true (by assumption)
   have q104 : x3_1 < (l0.length : Int) := of_decide_eq_true (by assumption)
   obtain ⟨ad104, A104_1, c104_1, e104, hx104_0, hx104_1, hl104_1, hi104_1⟩ := bY_ HR0.out x3_1 p104 q104
   obtain rfl : ad101 = ad104 := (by injection e104)
   have HR104_1 := Aside0.mk hi104_1
   have HC104_1 := Aside0.mk hl104_1
   clear hi104_1 hl104_1
   replace p104 := eq_true p104
   replace q104 := eq_true q104
   have ea_ := Option.some.inj (hx101_1.symm.trans hx104_1)
   injection ea_ with ea_ en_ ec_
   (try subst ea_)
   (try subst ec_)
   (try clear ea_ ec_)
   clear en_
   go_upto_if 32 with (first | (go_at_call 50; (with_reducible refine (aB_.calls k1 _ [af_ l0 x3_1] true _ ?side1 A4.out).mono ?_); (case side1 => exact (RPW.C_elem (ad := ad101) (n := l0.length) (xs := l0) z28 (i := x3_1) (by first | exact of_eq_true p101 | exact p101 | omega) (by first | exact of_eq_true q101 | exact q101 | omega) (by first | exact HR0.out | exact cz HR0.out))); rintro e w' ⟨rfl, ⟨nd, rfl⟩⟩; (try first | exact ⟨rfl, _, World.drewN_drewN _ _ _⟩ | exact ⟨rfl, _, Eq.trans (World.drewN_drewN _ _ _) (congrArg (World.drewN _) (Nat.add_assoc _ _ _))⟩)))
   repeat (go_quiet (first | (go_at_call 50; (with_reducible refine (aB_.calls k1 _ [af_ l0 x3_1] true _ ?side1 A4.out).mono ?_); (case side1 => exact (RPW.C_elem (ad := ad101) (n := l0.length) (xs := l0) z28 (i := x3_1) (by first | exact of_eq_true p101 | exact p101 | omega) (by first | exact of_eq_true q101 | exact q101 | omega) (by first | exact HR0.out | exact cz HR0.out))); rintro e w' ⟨rfl, ⟨nd, rfl⟩⟩; (try first | exact ⟨rfl, _, World.drewN_drewN _ _ _⟩ | exact ⟨rfl, _, Eq.trans (World.drewN_drewN _ _ _) (congrArg (World.drewN _) (Nat.add_assoc _ _ _))⟩))); go_upto_if 32 with (first | (go_at_call 50; (with_reducible refine (aB_.calls k1 _ [af_ l0 x3_1] true _ ?side1 A4.out).mono ?_); (case side1 => exact (RPW.C_elem (ad := ad101) (n := l0.length) (xs := l0) z28 (i := x3_1) (by first | exact of_eq_true p101 | exact p101 | omega) (by first | exact of_eq_true q101 | exact q101 | omega) (by first | exact HR0.out | exact cz HR0.out))); rintro e w' ⟨rfl, ⟨nd, rfl⟩⟩; (try first | exact ⟨rfl, _, World.drewN_drewN _ _ _⟩ | exact ⟨rfl, _, Eq.trans (World.drewN_drewN _ _ _) (congrArg (World.drewN _) (Nat.add_assoc _ _ _))⟩))))
   (try simp only [Act.put, lsa_, ls0_, ls1_])
   have H := HC10.out
   clear HC10
   by_cases c11 : ((Op.bytesLess (((af_ l0 (ji7)).f0).toList) (((af_ l0 x3_1).f0).toList)) = true)
   rotate_left
   ·rw [if_neg c11] at H
    have c11b0 : (Op.bytesLess (((af_ l0 (ji7)).f0).toList) (((af_ l0 x3_1).f0).toList)) = false := by simpa using c11
    clear c11
    (first | rw [c11b0] | (simp only [i64_w, i32_w]; rw [c11b0]) | (simp only [c11b1, Bool.not_true, Bool.not_false]) | (simp only [c11b0, Bool.not_true, Bool.not_false]) | skip)
    obtain rfl := Option.some.inj H
    go_wp2
    repeat (go_quiet (fail); try go_wp2)
    go_ret
    exact ⟨by first | rfl | (simp; done) | (simp only [← hji7] <;> (first | rfl | simp)) | (simp [*]; done), by repeat (first | exact ax_.refl _ | apply ax_.step)⟩
   rw [if_pos c11] at H
   have c11b0 : (Op.bytesLess (((af_ l0 (ji7)).f0).toList) (((af_ l0 x3_1).f0).toList)) = true := c11
   clear c11
   (first | rw [c11b0] | (simp only [i64_w, i32_w]; rw [c11b0]) | (simp only [c11b1, Bool.not_true, Bool.not_false]) | (simp only [c11b0, Bool.not_true, Bool.not_false]) | skip)
   have H' := Aside0.mk H
   clear H
   go_wp2
   repeat (go_quiet (fail); try go_wp2)
   go_roundg k1
   case measure => have := HK1.out; omega
   case rel => exact ⟨(wrap64 (x3_1 + 1)), (by first | rfl | (simp; done) | (simp [*]; done)), H', ⟨by have := HK1.out; omega⟩, by repeat (first | exact ax_.refl _ | apply ax_.step)⟩
end Go.Proofs.Yteafahnopgmgoaa.Q
namespace Go.Proofs.Yteafahnopgmgoaa.Q
open Go.RowKit Go.Proofs.YteafahnopgmgoaaW.PrintWords Go.Proofs.YteafahnopgmgoaaW.PrintLast Go.Proofs.YteafahnopgmgoaaW.PrintMore
theorem wr64 {x : Int} (h0 : -9223372036854775808 ≤ x) (h1 : x < 9223372036854775808) : wrap64 x = x := by unfold wrap64; omega
theorem wr64s (i : Nat) (h : (i : Int) < 9223372036854775807) : wrap64 ((i : Int) + 1) = ((i + 1 : Nat) : Int) := by rw [wr64 (by omega) (by omega)]; omega
theorem bw_ {α : Type} {g : Nat → Option α} {r : α} (h : Ev (fun k => g (k + 1)) r) : Ev g r := by
 obtain ⟨K, hK⟩ := h
 refine ⟨K + 1, fun k hk => ?_⟩
 obtain ⟨m, rfl⟩ : ∃ m, k = m + 1 := ⟨k - 1, by omega⟩
 exact hK m (by omega)
theorem Ev_t {α : Type} {c : Prop} [Decidable c] {f g : Nat → Option α} {r : α} (h : c) (k : Ev f r) : Ev (fun n => if c then f n else g n) r := by
 obtain ⟨K, hK⟩ := k
 exact ⟨K, fun n hn => (if_pos h).trans (hK n hn)⟩
theorem Ev_f {α : Type} {c : Prop} [Decidable c] {f g : Nat → Option α} {r : α} (h : ¬ c) (k : Ev g r) : Ev (fun n => if c then f n else g n) r := by
 obtain ⟨K, hK⟩ := k
 exact ⟨K, fun n hn => (if_neg h).trans (hK n hn)⟩
theorem Ev_b {α β : Type} {g : Nat → Option α} {f : Nat → α → Option β} {a : α} {r : β} (h : Ev g a) (k : Ev (fun n => f n a) r) : Ev (fun n => (g n).bind (fun x => f n x)) r := Ev.bind h k
theorem Ev_s {α β : Type} {a : α} {f : Nat → α → Option β} {r : β} (k : Ev (fun n => f n a) r) : Ev (fun n => (some a).bind (fun x => f n x)) r := k
theorem Ev_n {α : Type} {a r : α} (h : a = r) : Ev (fun _ => some a) r := ⟨0, fun _ _ => by rw [h]⟩
theorem Ev_c {α : Type} {o : Option α} {r : α} (h : o = some r) : Ev (fun _ => o) r := ⟨0, fun _ _ => h⟩
theorem Ev_at {α : Type} {g : Nat → Option α} {r r' : α} (h : Ev g r) (e : r = r') : Ev g r' := e ▸ h
theorem Ev_two {α β : Type} {g : Nat → Option α} {f : Nat → Option β} {a : α} {b : β} (h : Ev g a) (k : Ev f b) : ∃ K, ∀ n, K ≤ n → g n = some a ∧ f n = some b := by
 obtain ⟨K, hK⟩ := h
 obtain ⟨L, hL⟩ := k
 exact ⟨max K L, fun n hn => ⟨hK n (by omega), hL n (by omega)⟩⟩
theorem Ev_one {α : Type} {g : Nat → Option α} {a b : α} (h : Ev g a) (k : Ev g b) : a = b := by
 obtain ⟨K, hK⟩ := Ev_two h k
 have := hK K (Nat.le_refl _)
 have h2 := this.1.symm.trans this.2
 exact Option.some.inj h2
theorem getD_in {α : Type} (l : List α) (z : α) (i : Nat) (h : i < l.length) : l.getD ((i : Int).toNat) z = l[i] := by simp [List.getD, h]
theorem getD_at {α : Type} (p q : List α) (z x : α) (i : Nat) (h : p.length = i) : (p ++ x :: q).getD ((i : Int).toNat) z = x := by subst h; simp [List.getD]
theorem set_at {α : Type} (p q : List α) (x y : α) (i : Nat) (h : p.length = i) : (p ++ x :: q).set ((i : Int).toNat) y = p ++ y :: q := by subst h; simp
theorem ite_and (b c : Bool) : (if b = true then some c else some false) = some (b && c) := by cases b <;> rfl
theorem in_f (a b c : Int) : spec_l00In.f a b c = some (decide (b ≤ a) && decide (a ≤ c)) := by unfold spec_l00In.f; by_cases h : a ≥ b <;> simp [h]
theorem within_f (a b c : Int) : ct_.f a b c = some (decide (b ≤ a) && decide (a ≤ c)) := by unfold ct_.f; by_cases h : a ≥ b <;> simp [h]
theorem w64 {x : Int} (h0 : -9223372036854775808 ≤ x) (h1 : x < 9223372036854775808) : wrap64 x = x := by unfold wrap64; omega
theorem toList_len (x : ByteArray) : x.toList.length = x.size := by
 rw [Go.ByteArray.toList_eq x, Array.length_toList]; rfl
theorem name_round (k : Nat) (x : ByteArray) (i : Int) : aO_.l0 k x i = aJ_.l0 k x i := by
 induction k generalizing i with
 | zero => rfl
 | succ k ih =>
  simp only [aO_.l0, aJ_.l0, ih, bR_.f, cp_.f]
  by_cases h1 : i < (x.size : Int)
  rotate_left
  ·rw [if_neg h1, if_neg h1]
  rw [if_pos h1, if_pos h1]
  by_cases h2 : 0 ≤ i
  rotate_left
  ·rw [if_neg h2, if_neg h2]
  rw [if_pos h2, if_pos h2]
  generalize bt x i = c
  by_cases h3 : c < 97
  rotate_left
  ·rw [if_neg h3, if_pos (show c ≥ 97 by omega)]
   by_cases h4 : c > 122
   rotate_left
   ·rw [if_neg h4]; simp [show c ≤ 122 by omega]
   simp [h4, show ¬ c < 48 by omega, show c > 57 by omega, show ¬ c ≤ 122 by omega, show ¬ c ≤ 57 by omega]
  rw [if_pos h3, if_neg (by omega)]
  by_cases h4 : c < 48
  rotate_left
  ·rw [if_neg h4, if_pos (by omega)]
   by_cases h5 : c > 57
   rotate_left
   ·rw [if_neg h5]; simp [show c ≤ 57 by omega]
   rw [if_pos h5]; simp [show ¬ c ≤ 57 by omega]
  rw [if_pos h4, if_neg (by omega)]; simp
theorem name_same (k : Nat) (x : ByteArray) : aO_.f k x = aJ_.f k x := by
 have hj : ∀ b, aO_.j0 k x b = aJ_.j0 k x b := by
  intro b
  cases k with
  | zero => rfl
  | succ k => simp only [aO_.j0, aJ_.j0, name_round]
 unfold aO_.f aJ_.f bR_.f
 simp only [hj]
 by_cases h0 : x.toList = []
 rotate_left
 ·have : x.size ≠ 0 := by
   intro e; apply h0; apply List.eq_nil_of_length_eq_zero; rw [toList_len, e]
  rw [if_neg h0, if_neg (show ¬ (x.size : Int) < 1 by omega)]
  by_cases h1 : (x.size : Int) > 10
  rotate_left
  ·rw [if_neg h1, if_neg h1, if_pos (show 0 < (x.size : Int) by omega), if_pos (show 0 < (x.size : Int) by omega)]
   generalize bt x 0 = c
   by_cases h3 : c < 97
   rotate_left
   ·rw [if_neg h3, if_pos (show c ≥ 97 by omega)]
    simp only [Option.bind_some]
    congr 1
    by_cases h4 : c > 122
    rotate_left
    ·simp [h4, show c ≤ 122 by omega]
    simp [h4, show ¬ c ≤ 122 by omega]
   rw [if_pos h3, if_neg (show ¬ c ≥ 97 by omega)]; rfl
  rw [if_pos h1, if_pos h1]
 have : x.size = 0 := by rw [← toList_len, h0]; rfl
 rw [if_pos h0, if_pos (by omega)]
theorem name_ev (x : ByteArray) : ∃ b, ∀ k, 12 < k → aJ_.f k x = some b := by
 have go : ∀ (d : Nat) (i : Int), 0 ≤ i → i + d = x.size → (x.size : Int) ≤ 10 → ∃ b, ∀ k, d < k → aJ_.l0 k x i = some b := by
  intro d
  induction d with
  | zero =>
   intro i h0 h1 _
   refine ⟨true, fun k hk => ?_⟩
   obtain ⟨k, rfl⟩ : ∃ m, k = m + 1 := ⟨k - 1, by omega⟩
   simp only [aJ_.l0]
   rw [if_neg (by omega)]
  | succ d ih =>
   intro i h0 h1 h2
   obtain ⟨b, hb⟩ := ih (i + 1) (by omega) (by omega) h2
   by_cases h3 : bt x i < 97
   rotate_left
   ·by_cases h4 : bt x i > 122
    rotate_left
    ·refine ⟨b, fun k hk => ?_⟩
     obtain ⟨k, rfl⟩ : ∃ m, k = m + 1 := ⟨k - 1, by omega⟩
     simp only [aJ_.l0]
     rw [if_pos (by omega), if_pos h0, if_neg h3, if_neg h4, w64 (by omega) (by omega), hb k (by omega)]
    refine ⟨false, fun k hk => ?_⟩
    obtain ⟨k, rfl⟩ : ∃ m, k = m + 1 := ⟨k - 1, by omega⟩
    simp only [aJ_.l0]
    rw [if_pos (by omega), if_pos h0, if_neg h3, if_pos h4, if_neg (by omega), if_pos (by omega)]
   by_cases h4 : bt x i < 48
   rotate_left
   ·by_cases h5 : bt x i > 57
    rotate_left
    ·refine ⟨b, fun k hk => ?_⟩
     obtain ⟨k, rfl⟩ : ∃ m, k = m + 1 := ⟨k - 1, by omega⟩
     simp only [aJ_.l0]
     rw [if_pos (by omega), if_pos h0, if_pos h3, if_neg h4, if_neg h5, w64 (by omega) (by omega), hb k (by omega)]
    refine ⟨false, fun k hk => ?_⟩
    obtain ⟨k, rfl⟩ : ∃ m, k = m + 1 := ⟨k - 1, by omega⟩
    simp only [aJ_.l0]
    rw [if_pos (by omega), if_pos h0, if_pos h3, if_neg h4, if_pos h5]
   refine ⟨false, fun k hk => ?_⟩
   obtain ⟨k, rfl⟩ : ∃ m, k = m + 1 := ⟨k - 1, by omega⟩
   simp only [aJ_.l0]
   rw [if_pos (by omega), if_pos h0, if_pos h3, if_pos h4]
 have hj : ∀ (b : Bool), (b = false → (x.size : Int) ≤ 10) → ∃ c, ∀ k, 12 < k → aJ_.j0 k x b = some c := by
  intro b hs
  cases b with
  | true =>
   refine ⟨false, fun k hk => ?_⟩
   obtain ⟨k, rfl⟩ : ∃ m, k = m + 1 := ⟨k - 1, by omega⟩
   simp only [aJ_.j0, if_true]
  | false =>
   obtain ⟨c, hc⟩ := go x.size 0 (by omega) (by omega) (hs rfl)
   have := hs rfl
   refine ⟨c, fun k hk => ?_⟩
   obtain ⟨k, rfl⟩ : ∃ m, k = m + 1 := ⟨k - 1, by omega⟩
   simp only [aJ_.j0]
   rw [if_neg (by decide), hc k (by omega)]
 unfold aJ_.f
 by_cases h1 : (x.size : Int) < 1
 rotate_left
 ·simp only [if_neg h1]
  by_cases h2 : (x.size : Int) > 10
  rotate_left
  ·simp only [if_neg h2, if_pos (show 0 < (x.size : Int) by omega)]
   by_cases h3 : bt x 0 < 97
   rotate_left
   ·simp only [if_neg h3]; exact hj _ (fun _ => by omega)
   simp only [if_pos h3]; exact hj true (by intro h; cases h)
  simp only [if_pos h2]; exact hj true (by intro h; cases h)
 simp only [if_pos h1]; exact hj true (by intro h; cases h)
end Go.Proofs.Yteafahnopgmgoaa.Q
namespace Go.Proofs.Yteafahnopgmgoaa.Q
open Go.RowKit Go.Proofs.YteafahnopgmgoaaW.PrintWords Go.Proofs.YteafahnopgmgoaaW.PrintLast Go.Proofs.YteafahnopgmgoaaW.PrintMore
attribute [local go_sem] aY_ aW_ br_ bq_ aR_ aQ_ aZ_ aX_
def co_.f (a0 : Int) (a1 : Int) : Option (Int) := if a0 > a1 then (some a0) else (some a1)
set_option maxHeartbeats 8000000 in
set_option maxRecDepth 100000 in
theorem co_.calls (a0 : Int) (a1 : Int) (r : Int) (w : World) (h : co_.f a0 a1 = some r) :
  Calls Try.prog 79 #[.int .i64 a0, .int .i64 a1] w fun e w' => e = .returned (.int .i64 r) ∧ ax_ w w' := by
 have H : (if a0 > a1 then (some a0) else (some a1)) = some r := h
 clear h
 by_cases c3 : a0 > a1
 rotate_left
 ·rw [if_neg c3] at H
  have c3b0 : decide (a1 < a0) = false := decide_eq_false c3
  clear c3
  obtain rfl := Option.some.inj H
  go_enter Try.func79, Try.ntmps79
  go_wp2
  go_ret
  exact ⟨by first | rfl | (simp; done) | (simp [*]; done), by repeat (first | exact ax_.refl _ | apply ax_.step)⟩
 rw [if_pos c3] at H
 have c3b0 : decide (a1 < a0) = true := decide_eq_true c3
 clear c3
 obtain rfl := Option.some.inj H
 go_enter Try.func79, Try.ntmps79
 go_wp2
 go_ret
 exact ⟨by first | rfl | (simp; done) | (simp [*]; done), by repeat (first | exact ax_.refl _ | apply ax_.step)⟩
def bj_.l0 : Nat → List (S28) → List (S28) → Int → Int → Option (Int)
 | 0, _, _, _, _ => none
 | k + 1, x0, x1, x5, x6 => if x6 < 6 then (if 0 < (x0.length : Int) then (if 0 ≤ x6 then (if x6 < (((af_ x0 0).f1).length : Int) then (if 0 < (x1.length : Int) then (if x6 < (((af_ x1 0).f1).length : Int) then ((co_.f (wrap64 ((rd ((af_ x0 0).f1) x6) - (rd ((af_ x1 0).f1) x6))) (wrap64 ((rd ((af_ x1 0).f1) x6) - (rd ((af_ x0 0).f1) x6)))).bind fun t109 => (bj_.l0 k x0 x1 (wrap64 (x5 + t109)) (wrap64 (x6 + 1)))) else (none)) else (none)) else (none)) else (none)) else (none)) else (some x5)
def bj_.f (k : Nat) (l0 : List (S28)) (l1 : List (S28)) : Option (Int) := bj_.l0 k l0 l1 0 0
set_option maxHeartbeats 8000000 in
set_option maxRecDepth 100000 in
theorem bj_.calls (k : Nat) (A0 : Option Addr) (l0 : List (S28)) (A1 : Option Addr) (l1 : List (S28)) (r : Int) (w : World) (hr0 : Kd.C k28 w A0 l0.length l0) (hr1 : Kd.C k28 w A1 l1.length l1) (h : bj_.f k l0 l1 = some r) :
  Calls Try.prog 51 #[.pointer A0, .pointer A1] w fun e w' => e = .returned (.int .i64 r) ∧ ax_ w w' := by
 have HR0 := Aside0.mk hr0
 clear hr0
 have HR1 := Aside0.mk hr1
 clear hr1
 have H : (bj_.l0 k l0 l1 0 0) = some r := h
 clear h
 have H' := Aside0.mk H
 clear H
 go_enter Try.func51, Try.ntmps51
 go_wp2
 repeat (go_quiet (fail); try go_wp2)
 (try simp only [Act.put, lsa_, ls0_, ls1_])
 go_loopg [5, 6] k (fun kq v5 v6 w' => ∃ (x5_1 : Int) (x6_1 : Int), v5 = .int .i64 x5_1 ∧ v6 = .int .i64 x6_1 ∧ Aside0 (bj_.l0 kq l0 l1 x5_1 x6_1 = some r) ∧ Aside0 (kq ≤ k) ∧ ax_ w w')
 case atStart => exact ⟨(0), (0), (by first | rfl | (simp; done) | (simp [*]; done)), (by first | rfl | (simp; done) | (simp [*]; done)), H', ⟨Nat.le_refl _⟩, by repeat (first | exact ax_.refl _ | apply ax_.step)⟩
 case round =>
  clear H'
  obtain ⟨x5_1, x6_1, rfl, rfl, HA, HK1, ⟨m1, rfl⟩⟩ := hrel
  cases gk with
  | zero => exact absurd HA.out (by simp [bj_.l0])
  | succ k1 =>
   have H := HA.out
   clear HA
   simp only [bj_.l0] at H
   by_cases c3 : x6_1 < 6
   rotate_left
   ·rw [if_neg c3] at H
    have c3b0 : decide (x6_1 < 6) = false := decide_eq_false c3
    clear c3
    obtain rfl := Option.some.inj H
    go_wp2
    repeat (go_quiet (fail); try go_wp2)
    go_ret
    exact ⟨by first | rfl | (simp; done) | (simp [*]; done), by repeat (first | exact ax_.refl _ | apply ax_.step)⟩
   rw [if_pos c3] at H
   have c3b0 : decide (x6_1 < 6) = true := decide_eq_true c3
   clear c3
   by_cases c4 : 0 < (l0.length : Int)
   rotate_left
   ·rw [if_neg c4] at H
    exact absurd H (by simp)
   rw [if_pos c4] at H
   have c4b0 : decide (0 < (l0.length : Int)) = true := decide_eq_true c4
   have c4b1 : decide (0 < l0.length) = true := decide_eq_true (by omega)
   clear c4
   by_cases c5 : 0 ≤ x6_1
   rotate_left
   ·rw [if_neg c5] at H
    exact absurd H (by simp)
   rw [if_pos c5] at H
   have c5b0 : decide (0 ≤ x6_1) = true := decide_eq_true c5
   clear c5
   by_cases c6 : x6_1 < (((af_ l0 0).f1).length : Int)
   rotate_left
   ·rw [if_neg c6] at H
    exact absurd H (by simp)
   rw [if_pos c6] at H
   have c6b0 : decide (x6_1 < (((af_ l0 0).f1).length : Int)) = true := decide_eq_true c6
   clear c6
   by_cases c7 : 0 < (l1.length : Int)
   rotate_left
   ·rw [if_neg c7] at H
    exact absurd H (by simp)
   rw [if_pos c7] at H
   have c7b0 : decide (0 < (l1.length : Int)) = true := decide_eq_true c7
   have c7b1 : decide (0 < l1.length) = true := decide_eq_true (by omega)
   clear c7
   by_cases c8 : x6_1 < (((af_ l1 0).f1).length : Int)
   rotate_left
   ·rw [if_neg c8] at H
    exact absurd H (by simp)
   rw [if_pos c8] at H
   have c8b0 : decide (x6_1 < (((af_ l1 0).f1).length : Int)) = true := decide_eq_true c8
   clear c8
   replace H := Option.bind_eq_some_iff.mp H
   obtain ⟨t109, A90, H⟩ := H
   (try dsimp only at H)
   have A9 := Aside0.mk A90
   clear A90
   have H' := Aside0.mk H
   clear H
   have p101 : 0 ≤ (0 : Int) := (by omega)
   have q101 : 0 < (l0.length : Int) := of_decide_eq_true (by assumption)
   obtain ⟨ad101, A101_1, c101_1, e101, hx101_0, hx101_1, hl101_1, hi101_1⟩ := bY_ HR0.out 0 p101 q101
   cases e101
   have qi101 : (0 < l0.length) = True := eq_true (by omega)
   (try simp only [Int.toNat_zero, Nat.zero_mul, Addr.add_zero'] at hx101_0 hx101_1)
   have HR101_1 := Aside0.mk hi101_1
   have HC101_1 := Aside0.mk hl101_1
   clear hi101_1 hl101_1
   replace p101 := eq_true p101
   replace q101 := eq_true q101
   have p102 : 0 ≤ (x6_1 : Int) := of_decide_eq_true (by assumption)
   have q102 : x6_1 < (((af_ l0 0).f1).length : Int) := of_decide_eq_true (by assumption)
   obtain ⟨ad102, e102, hx102_0⟩ := Kd.bL_ HR101_1.out x6_1 p102 q102
   cases e102
   replace p102 := eq_true p102
   replace q102 := eq_true q102
   have p103 : 0 ≤ (0 : Int) := (by omega)
   have q103 : 0 < (l1.length : Int) := of_decide_eq_true (by assumption)
   obtain ⟨ad103, A103_1, c103_1, e103, hx103_0, hx103_1, hl103_1, hi103_1⟩ := bY_ HR1.out 0 p103 q103
   cases e103
   have qi103 : (0 < l1.length) = True := eq_true (by omega)
   (try simp only [Int.toNat_zero, Nat.zero_mul, Addr.add_zero'] at hx103_0 hx103_1)
   have HR103_1 := Aside0.mk hi103_1
   have HC103_1 := Aside0.mk hl103_1
   clear hi103_1 hl103_1
   replace p103 := eq_true p103
   replace q103 := eq_true q103
   have p104 : 0 ≤ (x6_1 : Int) := of_decide_eq_true (by assumption)
   have q104 : x6_1 < (((af_ l1 0).f1).length : Int) := of_decide_eq_true (by assumption)
   obtain ⟨ad104, e104, hx104_0⟩ := Kd.bL_ HR103_1.out x6_1 p104 q104
   cases e104
   replace p104 := eq_true p104
   replace q104 := eq_true q104
   have p105 : 0 ≤ (0 : Int) := (by omega)
   have q105 : 0 < (l1.length : Int) := of_decide_eq_true (by assumption)
   obtain ⟨ad105, A105_1, c105_1, e105, hx105_0, hx105_1, hl105_1, hi105_1⟩ := bY_ HR1.out 0 p105 q105
   obtain rfl : ad103 = ad105 := (by injection e105)
   have qi105 : (0 < l1.length) = True := eq_true (by omega)
   (try simp only [Int.toNat_zero, Nat.zero_mul, Addr.add_zero'] at hx105_0 hx105_1)
   have HR105_1 := Aside0.mk hi105_1
   have HC105_1 := Aside0.mk hl105_1
   clear hi105_1 hl105_1
   replace p105 := eq_true p105
   replace q105 := eq_true q105
   have ea_ := Option.some.inj (hx103_1.symm.trans hx105_1)
   injection ea_ with ea_ en_ ec_
   (try subst ea_)
   (try subst ec_)
   (try clear ea_ ec_)
   clear en_
   have p106 : 0 ≤ (x6_1 : Int) := of_decide_eq_true (by assumption)
   have q106 : x6_1 < (((af_ l1 0).f1).length : Int) := of_decide_eq_true (by assumption)
   obtain ⟨ad106, e106, hx106_0⟩ := Kd.bL_ HR105_1.out x6_1 p106 q106
   obtain rfl : ad104 = ad106 := (by injection e106)
   replace p106 := eq_true p106
   replace q106 := eq_true q106
   have p107 : 0 ≤ (0 : Int) := (by omega)
   have q107 : 0 < (l0.length : Int) := of_decide_eq_true (by assumption)
   obtain ⟨ad107, A107_1, c107_1, e107, hx107_0, hx107_1, hl107_1, hi107_1⟩ := bY_ HR0.out 0 p107 q107
   obtain rfl : ad101 = ad107 := (by injection e107)
   have qi107 : (0 < l0.length) = True := eq_true (by omega)
   (try simp only [Int.toNat_zero, Nat.zero_mul, Addr.add_zero'] at hx107_0 hx107_1)
   have HR107_1 := Aside0.mk hi107_1
   have HC107_1 := Aside0.mk hl107_1
   clear hi107_1 hl107_1
   replace p107 := eq_true p107
   replace q107 := eq_true q107
   have ea_ := Option.some.inj (hx101_1.symm.trans hx107_1)
   injection ea_ with ea_ en_ ec_
   (try subst ea_)
   (try subst ec_)
   (try clear ea_ ec_)
   clear en_
   have p108 : 0 ≤ (x6_1 : Int) := of_decide_eq_true (by assumption)
   have q108 : x6_1 < (((af_ l0 0).f1).length : Int) := of_decide_eq_true (by assumption)
   obtain ⟨ad108, e108, hx108_0⟩ := Kd.bL_ HR107_1.out x6_1 p108 q108
   obtain rfl : ad102 = ad108 := (by injection e108)
   replace p108 := eq_true p108
   replace q108 := eq_true q108
   go_wp2_with (first | (go_at_call 79; (with_reducible refine (co_.calls (wrap64 ((rd ((af_ l0 0).f1) x6_1) - (rd ((af_ l1 0).f1) x6_1))) (wrap64 ((rd ((af_ l1 0).f1) x6_1) - (rd ((af_ l0 0).f1) x6_1))) t109 _ A9.out).mono ?_); rintro e w' ⟨rfl, ⟨nd, rfl⟩⟩; (try first | exact ⟨rfl, _, World.drewN_drewN _ _ _⟩ | exact ⟨rfl, _, Eq.trans (World.drewN_drewN _ _ _) (congrArg (World.drewN _) (Nat.add_assoc _ _ _))⟩)))
   repeat (go_quiet (first | (go_at_call 79; (with_reducible refine (co_.calls (wrap64 ((rd ((af_ l0 0).f1) x6_1) - (rd ((af_ l1 0).f1) x6_1))) (wrap64 ((rd ((af_ l1 0).f1) x6_1) - (rd ((af_ l0 0).f1) x6_1))) t109 _ A9.out).mono ?_); rintro e w' ⟨rfl, ⟨nd, rfl⟩⟩; (try first | exact ⟨rfl, _, World.drewN_drewN _ _ _⟩ | exact ⟨rfl, _, Eq.trans (World.drewN_drewN _ _ _) (congrArg (World.drewN _) (Nat.add_assoc _ _ _))⟩))); try go_wp2_with (first | (go_at_call 79; (with_reducible refine (co_.calls (wrap64 ((rd ((af_ l0 0).f1) x6_1) - (rd ((af_ l1 0).f1) x6_1))) (wrap64 ((rd ((af_ l1 0).f1) x6_1) - (rd ((af_ l0 0).f1) x6_1))) t109 _ A9.out).mono ?_); rintro e w' ⟨rfl, ⟨nd, rfl⟩⟩; (try first | exact ⟨rfl, _, World.drewN_drewN _ _ _⟩ | exact ⟨rfl, _, Eq.trans (World.drewN_drewN _ _ _) (congrArg (World.drewN _) (Nat.add_assoc _ _ _))⟩))))
   go_roundg k1
   case measure => have := HK1.out; omega
   case rel => exact ⟨(wrap64 (x5_1 + t109)), (wrap64 (x6_1 + 1)), (by first | rfl | (simp; done) | (simp [*]; done)), (by first | rfl | (simp; done) | (simp [*]; done)), H', ⟨by have := HK1.out; omega⟩, by repeat (first | exact ax_.refl _ | apply ax_.step)⟩
end Go.Proofs.Yteafahnopgmgoaa.Q
namespace Go.Proofs.Yteafahnopgmgoaa.Q
open Go.RowKit Go.Proofs.YteafahnopgmgoaaW.PrintWords Go.Proofs.YteafahnopgmgoaaW.PrintLast Go.Proofs.YteafahnopgmgoaaW.PrintMore
def okB (x : Int) : Bool := decide (0 ≤ x) && decide (x ≤ 255)
theorem rd_nat (l : List Int) (i : Nat) (h : i < l.length) : rd l (i : Int) = l[i] := by unfold rd; simp [List.getD, h]
theorem one_loop (x : S28) (hl : x.f1.length < 4611686018427387904) : ∀ (d i : Nat), i + d = x.f1.length → ∀ k, d < k → aB_.l0 k [x] i = some ((x.f1.drop i).all okB) := by
 intro d
 have hrd : af_ [x] 0 = x := rfl
 induction d with
 | zero =>
  intro i h k hk
  obtain ⟨k, rfl⟩ : ∃ m, k = m + 1 := ⟨k - 1, by omega⟩
  simp only [aB_.l0, hrd]
  rw [if_pos (by simp), if_neg (by omega), List.drop_of_length_le (by omega)]
  rfl
 | succ d ih =>
  intro i h k hk
  obtain ⟨k, rfl⟩ : ∃ m, k = m + 1 := ⟨k - 1, by omega⟩
  simp only [aB_.l0, hrd]
  rw [if_pos (by simp), if_pos (by omega), if_pos (by omega), rd_nat _ _ (by omega), in_f]
  simp only [Option.bind_some]
  rw [w64 (by omega) (by omega), show (i : Int) + 1 = ((i + 1 : Nat) : Int) by omega, ih (i + 1) (by omega) k (by omega), List.drop_eq_getElem_cons (show i < x.f1.length by omega), List.all_cons, ite_and]
  rfl
theorem index_loop (l : List Int) (hl : l.length < 4611686018427387904) : ∀ (d i : Nat), i + d = l.length → ∃ r, decide (r ≥ 0) = !((l.drop i).all okB) ∧ ∀ k, d < k → az_.l0 k l (l.length : Int) i = some r := by
 intro d
 induction d with
 | zero =>
  intro i h
  refine ⟨-1, by rw [List.drop_of_length_le (by omega)]; rfl, fun k hk => ?_⟩
  obtain ⟨k, rfl⟩ : ∃ m, k = m + 1 := ⟨k - 1, by omega⟩
  simp only [az_.l0]
  rw [if_neg (by omega)]
 | succ d ih =>
  intro i h
  cases hc : okB l[i]
  ·refine ⟨i, by rw [List.drop_eq_getElem_cons (show i < l.length by omega), List.all_cons, hc]; simp, fun k hk => ?_⟩
   obtain ⟨k, rfl⟩ : ∃ m, k = m + 1 := ⟨k - 1, by omega⟩
   simp only [az_.l0, bQ_.f]
   rw [if_pos (by omega), if_pos (by omega), if_pos (by omega), rd_nat _ _ (by omega), within_f]
   simp only [Option.bind_some]
   rw [show (decide (0 ≤ l[i]) && decide (l[i] ≤ 255)) = false from hc]
   simp
  ·obtain ⟨r, hr, hk0⟩ := ih (i + 1) (by omega)
   refine ⟨r, by rw [List.drop_eq_getElem_cons (show i < l.length by omega), List.all_cons, hc, hr]; simp, fun k hk => ?_⟩
   obtain ⟨k, rfl⟩ : ∃ m, k = m + 1 := ⟨k - 1, by omega⟩
   simp only [az_.l0, bQ_.f]
   rw [if_pos (by omega), if_pos (by omega), if_pos (by omega), rd_nat _ _ (by omega), within_f]
   simp only [Option.bind_some]
   rw [show (decide (0 ≤ l[i]) && decide (l[i] ≤ 255)) = true from hc]
   simp only [Bool.not_true, Bool.false_eq_true, if_false]
   rw [w64 (by omega) (by omega), show (i : Int) + 1 = ((i + 1 : Nat) : Int) by omega, hk0 k (by omega)]
theorem valid_ev (a : ByteArray) (l : List Int) : ∃ b, (b = true → l.length = 6 ∧ l.all okB = true) ∧ ∀ k, 20 < k → aB_.f k [(⟨a, l⟩ : S28)] = some b ∧ aE_.f k a l = some b := by
 obtain ⟨b, hb⟩ := name_ev a
 have hrd : af_ [(⟨a, l⟩ : S28)] 0 = ⟨a, l⟩ := rfl
 cases b with
 | false =>
  refine ⟨false, fun h => (by cases h), fun k hk => ⟨?_, ?_⟩⟩
  ·unfold aB_.f
   rw [if_pos (by simp), hrd, name_same, hb k (by omega)]
   obtain ⟨k, rfl⟩ : ∃ m, k = m + 1 := ⟨k - 1, by omega⟩
   simp [aB_.j0]
  ·unfold aE_.f
   rw [hb k (by omega)]
   simp
 | true =>
  by_cases h6 : l.length = 6
  rotate_left
  ·refine ⟨false, fun h => (by cases h), fun k hk => ⟨?_, ?_⟩⟩
   ·unfold aB_.f
    rw [if_pos (by simp), hrd, name_same, hb k (by omega)]
    obtain ⟨k, rfl⟩ : ∃ m, k = m + 1 := ⟨k - 1, by omega⟩
    simp [aB_.j0, show ¬ (l.length : Int) = 6 by omega]
   ·unfold aE_.f
    rw [hb k (by omega)]
    simp only [Option.bind_some, if_true]
    rw [if_neg (by omega)]
  obtain ⟨r, hr, hk0⟩ := index_loop l (by omega) 6 0 (by omega)
  rw [List.drop_zero] at hr
  refine ⟨l.all okB, fun h => ⟨h6, h⟩, fun k hk => ⟨?_, ?_⟩⟩
  ·unfold aB_.f
   rw [if_pos (by simp), hrd, name_same, hb k (by omega)]
   obtain ⟨k, rfl⟩ : ∃ m, k = m + 1 := ⟨k - 1, by omega⟩
   have := one_loop ⟨a, l⟩ (by simp only []; omega) 6 0 (by simp only []; omega) k (by omega)
   simp only [List.drop_zero] at this
   simp [aB_.j0, h6]
   simpa using this
  ·unfold aE_.f bb_.f az_.f
   rw [hb k (by omega)]
   have := hk0 k (by omega)
   simp only [Option.bind_some, if_true]
   rw [if_pos (by omega), show ((0 : Int)) = ((0 : Nat) : Int) from rfl, this]
   simp only [Option.bind_some]
   rw [show decide (r ≥ ((0 : Nat) : Int)) = decide (r ≥ 0) from rfl, hr]
   simp
end Go.Proofs.Yteafahnopgmgoaa.Q
namespace Go.Proofs.Yteafahnopgmgoaa.OPN
open Go Go.RowKit Go.Proofs.YteafahnopgmgoaaW.PrintWords
structure Opn {α : Type} (P : Program) (t : TypeId) (d : Kd α) (wf : α → Prop) : Prop where
 size : P.cellsOf t = d.sz
 get : ∀ {H : Type} {enc : TypeId × Value → H} {w : World} {base : Nat} {spare : Nat → Bool} {held : Bool} {fuel : Nat} {cs : List Value} {x : DataW H × List MemPlace},
  cs.length = d.sz → DataW.trod enc P w base spare held fuel t cs = some x → ∃ a, d.K w a cs ∧ wf a
theorem cs_ {cs : List Value} (h : cs.length = 1) : ∃ v, cs = [v] := by
 match cs, h with
 | [v], _ => exact ⟨v, rfl⟩
structure OpnF {α : Type} (P : Program) (fs : List (TypeId × Nat)) (off : Nat) (d : Kd α) (wf : α → Prop) : Prop where
 get : ∀ {H : Type} {enc : TypeId × Value → H} {w : World} {base : Nat} {spare : Nat → Bool} {held : Bool} {fuel : Nat} {cs : List Value} {xs : List (DataW H × List MemPlace)},
  cs.length = off + d.sz → fs.mapM (fun f => DataW.trod enc P w base spare held fuel f.1 ((cs.drop f.2).take (P.cellsOf f.1))) = some xs → ∃ a, d.K w a (cs.drop off) ∧ wf a
end Go.Proofs.Yteafahnopgmgoaa.OPN
namespace Go.Proofs.Yteafahnopgmgoaa.Q
open Go.RowKit Go.Proofs.YteafahnopgmgoaaW.PrintWords Go.Proofs.YteafahnopgmgoaaW.PrintLast Go.Proofs.YteafahnopgmgoaaW.PrintMore
theorem rd_F (l : List S28) (i : Nat) (h : i < l.length) : af_ l (i : Int) = l[i] := by unfold af_; simp [List.getD, h]
theorem validS_ev (m : List S28) (hl : (m.length : Int) ≤ 1048576) : ∃ b, (b = true → m.length ≤ 16 ∧ ∀ y ∈ m, y.f1.length = 6 ∧ y.f1.all okB = true) ∧ ∀ k, 2000000 < k → aV_.f k m = some b ∧ an_.f k m = some b := by
 have go : ∀ (d i : Nat), i + d = m.length → ∃ b, (b = true → m.length ≤ 16 ∧ ∀ y ∈ m.drop i, y.f1.length = 6 ∧ y.f1.all okB = true) ∧ ∀ k, d + 30 < k → aV_.l0 k m i = some b ∧ an_.l0 k m m (m.length : Int) i = some b := by
  intro d
  induction d with
  | zero =>
   intro i h1
   refine ⟨decide ((m.length : Int) ≤ 16), fun h => ⟨by have := of_decide_eq_true h; omega, by rw [List.drop_of_length_le (by omega)]; simp⟩, fun k hk => ?_⟩
   obtain ⟨k, rfl⟩ : ∃ m, k = m + 1 := ⟨k - 1, by omega⟩
   simp only [aV_.l0, an_.l0]
   rw [if_neg (by omega), if_neg (by omega)]
   exact ⟨rfl, rfl⟩
  | succ d ih =>
   intro i h1
   obtain ⟨b, hb, hv⟩ := valid_ev m[i].f0 m[i].f1
   have e1 : ∀ k, 20 < k → aB_.f k [m[i]] = some b := fun k h => (hv k h).1
   have e2 : ∀ k, 20 < k → aE_.f k m[i].f0 m[i].f1 = some b := fun k h => (hv k h).2
   obtain ⟨c, hc, hk0⟩ := ih (i + 1) (by omega)
   have g1 : ((i : Int) < (m.length : Int)) = True := eq_true (by omega)
   have g2 : (0 ≤ (i : Int)) = True := eq_true (by omega)
   have g3 := rd_F m i (by omega)
   have g4 : wrap64 ((i : Int) + 1) = ((i + 1 : Nat) : Int) := by rw [w64 (by omega) (by omega)]; omega
   have gf : (false = true) = False := by simp
   cases b with
   | false =>
    refine ⟨false, fun h => (by cases h), fun k hk => ?_⟩
    obtain ⟨k, rfl⟩ : ∃ m, k = m + 1 := ⟨k - 1, by omega⟩
    simp only [aV_.l0, an_.l0, g1, g2, g3, if_true, e1 k (by omega), e2 k (by omega), Option.bind_some, gf, if_false]
    exact ⟨trivial, trivial⟩
   | true =>
    have hcons : c = true → m.length ≤ 16 ∧ ∀ y ∈ m.drop i, y.f1.length = 6 ∧ y.f1.all okB = true := by
     intro h
     obtain ⟨c1, c2⟩ := hc h
     refine ⟨c1, ?_⟩
     rw [List.drop_eq_getElem_cons (show i < m.length by omega)]
     intro y hy
     rcases List.mem_cons.1 hy with rfl | hy
     ·exact hb rfl
     ·exact c2 y hy
    by_cases hi : i = 0
    rotate_left
    ·have g5 : ((i : Int) > 0) = True := eq_true (by omega)
     have g6 : wrap64 ((i : Int) - 1) = (i : Int) - 1 := w64 (by omega) (by omega)
     have g7 : (0 ≤ (i : Int) - 1) = True := eq_true (by omega)
     have g8 : ((i : Int) - 1 < (m.length : Int)) = True := eq_true (by omega)
     cases hlt : Op.bytesLess ((af_ m ((i : Int) - 1)).f0).toList (m[i].f0).toList with
     | true =>
      refine ⟨c, hcons, fun k hk => ?_⟩
      obtain ⟨k, rfl⟩ : ∃ m, k = m + 1 := ⟨k - 1, by omega⟩
      obtain ⟨f1, f2⟩ := hk0 k (by omega)
      simp only [aV_.l0, an_.l0, g1, g2, g3, if_true, e1 k (by omega), e2 k (by omega), Option.bind_some, g5, g6, g7, g8, hlt, g4]
      exact ⟨f1, f2⟩
     | false =>
      refine ⟨false, fun h => (by cases h), fun k hk => ?_⟩
      obtain ⟨k, rfl⟩ : ∃ m, k = m + 1 := ⟨k - 1, by omega⟩
      simp only [aV_.l0, an_.l0, g1, g2, g3, if_true, e1 k (by omega), e2 k (by omega), Option.bind_some, g5, g6, g7, g8, hlt, gf, if_false]
      exact ⟨trivial, trivial⟩
    have g5 : ((i : Int) > 0) = False := eq_false (by omega)
    refine ⟨c, hcons, fun k hk => ?_⟩
    obtain ⟨k, rfl⟩ : ∃ m, k = m + 1 := ⟨k - 1, by omega⟩
    obtain ⟨f1, f2⟩ := hk0 k (by omega)
    simp only [aV_.l0, an_.l0, g1, g2, g3, if_true, e1 k (by omega), e2 k (by omega), Option.bind_some, g5, if_false, g4]
    exact ⟨f1, f2⟩
 obtain ⟨b, hb, hk0⟩ := go m.length 0 (by omega)
 exact ⟨b, by simpa using hb, fun k hk => hk0 k (by omega)⟩
end Go.Proofs.Yteafahnopgmgoaa.Q
namespace Go.Proofs.Yteafahnopgmgoaa.Q
open Go.RowKit Go.Proofs.YteafahnopgmgoaaW.PrintWords Go.Proofs.YteafahnopgmgoaaW.PrintLast Go.Proofs.YteafahnopgmgoaaW.PrintMore
attribute [local go_sem] aY_ aW_ br_ bq_ aR_ aQ_ aZ_ aX_
def bK_.f (l0 : List Int) : Option (List Int) := (some (([] : List Int) : List Int)).bind fun y101 => (if y101.length + l0.length < 17592186044416 then (some (y101 ++ l0)) else (none))
set_option maxHeartbeats 8000000 in
set_option maxRecDepth 100000 in
theorem bK_.calls (A0 : Option Addr) (c0 : Nat) (l0 : List Int) (r : List Int) (w : World) (hr0 : Kd.C (Kd.int .i64) w A0 l0.length l0) (hc0 : l0.length ≤ c0) (h : bK_.f l0 = some r) :
  Calls Try.prog 96 #[.slice A0 l0.length c0] w fun e w' => ∃ v0_ : Value, e = .returned (v0_) ∧ Kd.R (Kd.int .i64) 2 w' w.heap.size (fun _ => True) v0_ r ∧ Below w.heap.size w w' := by
 have HR0 := Aside0.mk hr0
 have HC0 := Aside0.mk hc0
 clear hr0 hc0
 have HB := Aside0.mk (Below.refl w.heap.size w)
 have H : ((some (([] : List Int) : List Int)).bind fun y101 => (if y101.length + l0.length < 17592186044416 then (some (y101 ++ l0)) else (none))) = some r := h
 clear h
 obtain ⟨y101, hy101⟩ : ∃ y_ : List Int, y_ = (([] : List Int)) := ⟨_, rfl⟩
 replace H : (if y101.length + l0.length < 17592186044416 then (some (y101 ++ l0)) else (none)) = some r := by first | (rw [hy101]; with_reducible exact H) | (have H2_ := (Option.bind_some _ _).symm.trans H; rw [hy101]; with_reducible exact H2_) | (have H2_ := (Option.bind_some _ _).symm.trans H; with_reducible exact H2_) | with_reducible exact H | (rw [hy101]; exact H) | exact H
 have Ny101 := Aside0.mk hy101
 clear hy101
 by_cases c2 : y101.length + l0.length < 17592186044416
 rotate_left
 ·rw [if_neg c2] at H
  exact absurd H (by simp)
 rw [if_pos c2] at H
 have LMc2 := Aside0.mk c2
 clear c2
 obtain ⟨y104, hy104⟩ : ∃ y_ : List Int, y_ = (y101 ++ l0) := ⟨_, rfl⟩
 replace H : (some y104) = some r := by first | (rw [hy104]; with_reducible exact H) | (have H2_ := (Option.bind_some _ _).symm.trans H; rw [hy104]; with_reducible exact H2_) | (have H2_ := (Option.bind_some _ _).symm.trans H; with_reducible exact H2_) | with_reducible exact H | (rw [hy104]; exact H) | exact H
 have Ny104 := Aside0.mk hy104
 clear hy104
 obtain rfl := Option.some.inj H
 go_enter Try.func96, Try.ntmps96
 go_wp2_with (first | ((with_reducible refine bg_ (N := 3) rfl ?_); refine Kd.R_lit (Kd.int .i64) _ 2 ?hg (N := 3) ?hd (xs := ([] : List Int)) (inner := []) (ok := fun _ => True) (okp := fun _ => True) ?hr ?hp (fun _ hk => hk) trivial (Below.refl _ _) (Nat.le_refl _) (by simp) ?_; (case hd => rfl); (case hg => rfl); (case hr => (go_simp; try rfl)); (case hp => exact (Reps.none _ _)); intro v102 w3 ho4 hb hg_ hnew_; clear hg_ hnew_; (first | rw [← Ny101.out] at ho4 | (simp only [Int.reduceToNat] at ho4; rw [← Ny101.out] at ho4)); have HO103 := Aside0.mk (Kd.bM_ ho4 (aA_ (bz HB.out))); replace HB := Aside0.mk (am_ (bz HB.out) hb); clear hb ho4) | ((with_reducible refine bx_ (b := .append) (xs := #[.tmp 3, .tmp 4]) rfl ?_); at_builtin; refine Kd.ci_ (Kd.int .i64) (w0 := w) w.heap.size rfl (.tmp 3) (.tmp 4) 22 2 (.int .i64 0) 8 rfl Try.underlying22 info2 rfl (by decide) (by omega) v102 y101 l0 _ _ _ (fun _ => True) (fun _ => False) rfl rfl ?aO ?aR (fun _ _ h => h) (fun _ h => h.elim) ?aF ?aB ?aS ?aL ?_; (case aR => exact cz (Kd.bi_ HR0.out HB.out)); (case aB => exact (bz HB.out)); (case aF => exact (fun _ _ => trivial)); (case aO => exact (rz HO103.out)); (case aS => exact (aA_ (bz HB.out))); (case aL => have := LMc2.out; omega); intro v105 w5 ho hb hg hat; rw [← Ny104.out] at ho; replace HB := Aside0.mk (hb); have HO106 := Aside0.mk (ho); clear HO103; clear ho hb hg hat))
 go_ret
 exact ⟨_, by first | rfl | (simp [*, aH_, aG_] <;> rfl), rz HO106.out, bz HB.out⟩
end Go.Proofs.Yteafahnopgmgoaa.Q
