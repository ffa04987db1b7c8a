/- a merge of two branches answers as the statement says This text holds the functions' walks and the words for them. -/
import Derived.Test.YtiheginanghhjaaKFnMergesa
import Derived.Test.YtiheginanghhjaaKFnMergesb
set_option linter.unusedVariables false
set_option linter.unusedSimpArgs false
namespace Go.Proofs.Ytiheginanghhjaa.Q
open Go.RowKit Go.Proofs.YtiheginanghhjaaW.PrintWords Go.Proofs.YtiheginanghhjaaW.PrintLast Go.Proofs.YtiheginanghhjaaW.PrintMore
attribute [local go_sem] aP_ aQ_ bh_ bg_ aE_ aD_ aR_ aO_
def bq_.l0 : Nat → List (S78) → List (S78) → Int → Int → Option ((List (S78)) × Int)
 | 0, _, _, _, _ => none
 | k + 1, x10, x27, x28, x29 => if x29 < x28 then (if 0 ≤ x29 then (if x29 < (x27.length : Int) then ((impl_Entry.f ((ar_ x27 x29).f3)).bind fun t112 => (if x10.length < 2513169434916 then (bq_.l0 k (x10 ++ [(⟨(ar_ x27 x29).f0, (ar_ x27 x29).f1, (ar_ x27 x29).f2, t112⟩ : S78)]) x27 x28 (wrap64 (x29 + 1))) else (none))) else (none)) else (none)) else (some (x10, 0))
def bq_.f (k : Nat) (l0 : List (S78)) (a1 : Int) (a2 : ByteArray) (l3 : List (S63)) : Option ((List (S78)) × Int) := if (l0.length : Int) = 16 then (some (([] : List (S78)), 5)) else ((cO_.f l0).bind fun t104 => (if t104.length < 2513169434916 then ((some (t104 ++ [(⟨wrap64 ((l0.length : Int) + 1), a1, a2, l3⟩ : S78)] : List (S78))).bind fun y107 => (bq_.l0 k (([] : List (S78))) y107 (y107.length : Int) 0)) else (none)))
set_option maxHeartbeats 8000000 in
set_option maxRecDepth 100000 in
theorem bq_.calls (k : Nat) (P0_ : Nat → Prop) (A0 : Option Addr) (c0 : Nat) (l0 : List (S78)) (a1 : Int) (a2 : ByteArray) (P3_ : Nat → Prop) (A3 : Option Addr) (c3 : Nat) (l3 : List (S63)) (r1 : List (S78)) (r2 : Int) (w : World) (hs0 : Kd.V k78 78 w w.heap.size (fun k_ => P0_ k_) (.slice A0 l0.length c0) l0) (hs3 : Kd.V k63 63 w w.heap.size (fun k_ => P3_ k_) (.slice A3 l3.length c3) l3) (h : bq_.f k l0 a1 a2 l3 = some (r1, r2)) :
  Calls Try.prog 57 #[.slice A0 l0.length c0, .int .i64 a1, .string a2, .slice A3 l3.length c3] w fun e w' => ∃ v0_ : Value, e = .returned (.tuple #[v0_, .int .i64 r2]) ∧ Kd.S k78 78 w' w.heap.size (fun k_ => (w.heap.size ≤ k_)) v0_ r1 ∧ Below w.heap.size w w' := by
 have hu78 := Try.underlying78
 have HO0 := Aside0.mk (show Kd.V k78 78 w w.heap.size (fun k_ => ((P0_ k_ ∨ P3_ k_) ∨ w.heap.size ≤ k_)) (.slice A0 l0.length c0) l0 from Kd.aJ_ hs0 (fun k_ hk => .inl (.inl hk)))
 have HO3 := Aside0.mk (show Kd.V k63 63 w w.heap.size (fun k_ => ((P0_ k_ ∨ P3_ k_) ∨ w.heap.size ≤ k_)) (.slice A3 l3.length c3) l3 from Kd.aJ_ hs3 (fun k_ hk => .inl (.inr hk)))
 have HB := Aside0.mk (Below.refl w.heap.size w)
 have H : (if (l0.length : Int) = 16 then (some (([] : List (S78)), 5)) else ((cO_.f l0).bind fun t104 => (if t104.length < 2513169434916 then ((some (t104 ++ [(⟨wrap64 ((l0.length : Int) + 1), a1, a2, l3⟩ : S78)] : List (S78))).bind fun y107 => (bq_.l0 k (([] : List (S78))) y107 (y107.length : Int) 0)) else (none)))) = some (r1, r2) := h
 clear h
 by_cases c5 : (l0.length : Int) = 16
 rotate_left
 ·rw [if_neg c5] at H
  have c5b0 : ((l0.length : Int) == 16) = false := beq_eq_false_iff_ne.mpr c5
  have c5b1 : ((l0.length : Int) != 16) = true := bne_iff_ne.mpr c5
  obtain ⟨y101, hy101⟩ : ∃ y_ : List (S78), y_ = (([] : List (S78))) := ⟨_, rfl⟩
  replace H : ((cO_.f l0).bind fun t104 => (if t104.length < 2513169434916 then ((some (t104 ++ [(⟨wrap64 ((l0.length : Int) + 1), a1, a2, l3⟩ : S78)] : List (S78))).bind fun y107 => (bq_.l0 k y101 y107 (y107.length : Int) 0)) else (none))) = some (r1, r2) := by first | (rw [hy101]; with_reducible exact H) | (have H2_ := (Option.bind_some _ _).symm.trans H; rw [hy101]; with_reducible exact H2_) | (have H2_ := (Option.bind_some _ _).symm.trans H; with_reducible exact H2_) | with_reducible exact H | (rw [hy101]; exact H) | exact H
  have Ny101 := Aside0.mk hy101
  clear hy101
  replace H := Option.bind_eq_some_iff.mp H
  obtain ⟨t104, A60, H⟩ := H
  (try dsimp only at H)
  have A6 := Aside0.mk A60
  clear A60
  by_cases c7 : t104.length < 2513169434916
  rotate_left
  ·rw [if_neg c7] at H
   exact absurd H (by simp)
  rw [if_pos c7] at H
  have LMc7 := Aside0.mk c7
  clear c7
  obtain ⟨y107, hy107⟩ : ∃ y_ : List (S78), y_ = (t104 ++ [(⟨wrap64 ((l0.length : Int) + 1), a1, a2, l3⟩ : S78)]) := ⟨_, rfl⟩
  replace H : (bq_.l0 k y101 y107 (y107.length : Int) 0) = some (r1, r2) := by first | (rw [hy107]; with_reducible exact H) | (have H2_ := (Option.bind_some _ _).symm.trans H; rw [hy107]; with_reducible exact H2_) | (have H2_ := (Option.bind_some _ _).symm.trans H; with_reducible exact H2_) | with_reducible exact H | (rw [hy107]; exact H) | exact H
  have Ny107 := Aside0.mk hy107
  clear hy107
  have H' := Aside0.mk H
  clear H
  go_enter Try.func57, Try.ntmps57
  go_wp2_with (first | ((with_reducible refine aH_ (N := 16) rfl ?_); refine Kd.S_lit k78 _ 78 ?hg (N := 16) ?hd (xs := ([] : List (S78))) (inner := []) (ok := fun _ => True) (okp := fun _ => True) ?hr ?hp (fun _ hk => hk) trivial (Below.refl _ _) (Nat.le_refl _) (by simp) ?_; (case hd => rfl); (case hg => rfl); (case hr => (go_simp; try rfl)); (case hp => exact (Reps.none _ _)); intro v102 w8 ho9 hb hg_ hnew_; clear hg_ hnew_; (first | rw [← Ny101.out] at ho9 | (simp only [Int.reduceToNat] at ho9; rw [← Ny101.out] at ho9)); replace HO0 := Aside0.mk (Kd.bQ_ (vz HO0.out) (Kd.S_base ho9) hb); replace HO3 := Aside0.mk (Kd.bQ_ (vz HO3.out) (Kd.S_base ho9) hb); have HO103 := Aside0.mk (Kd.S_lower (Kd.S_newM (M := fun k_ => (w.heap.size ≤ k_)) ho9 (ae_ (bz HB.out)) (fun k_ h_ => h_)) (ae_ (bz HB.out))); replace HB := Aside0.mk (ac_ (bz HB.out) hb); clear hb ho9) | ((with_reducible refine ah_ (f := 82) rfl ?_); refine aN_ (some 18) rfl rfl Try.func82 (by kernel_rfl) rfl #[.slice A0 l0.length c0] rfl (by first | rfl | (simp only [lma_, lmc_, lmn_]; first | done | rfl)) ?_; (with_reducible refine (cO_.calls (fun k_ => (((P0_ k_ ∨ P3_ k_) ∨ w.heap.size ≤ k_) ∧ some k_ ≠ (v102 : Value).ownBlock)) _ _ l0 t104 _ ?side1 A6.out).mono ?_); (case side1 => exact HO0.out); rintro e w10 ⟨v105, rfl, ho0, hb⟩; refine ⟨_, rfl, ?_⟩; replace HO0 := Aside0.mk (Kd.bQ_ (vz HO0.out) (Kd.N_base ho0) hb); replace HO3 := Aside0.mk (Kd.bQ_ (vz HO3.out) (Kd.N_base ho0) hb); have HO106 := Aside0.mk (Kd.ds_ (Kd.co_ (ok' := fun k_ => ((P0_ k_ ∨ P3_ k_) ∨ w.heap.size ≤ k_) ∧ some k_ ≠ (v102 : Value).ownBlock) ho0 (fun k_ hk_ => ⟨Or.elim hk_ (fun hs_ => hs_.1) (fun hn_ => (.inr (Nat.le_trans (ae_ (bz HB.out)) hn_))), Or.elim hk_ (fun hs_ => hs_.2) (fun hn_ => (Kd.fresh' (Kd.S_lt (sz HO103.out)) k_ hn_))⟩)) (ae_ (bz HB.out))); replace HO103 := Aside0.mk (Kd.S_elder' (sz HO103.out) (Kd.N_base ho0) hb); replace HB := Aside0.mk (ac_ (bz HB.out) hb); (try clear hb); (try clear ho0)) | ((with_reducible refine be_ (b := .append) (xs := #[.tmp 18, .tmp 26]) rfl ?_); at_builtin; refine Kd.N_append k78 (w0 := w) w.heap.size rfl (.tmp 18) (.tmp 26) 38 78 (.agg #[(.int .i64 0), (.int .i64 0), (.string ⟨#[]⟩), (.slice none 0 0)]) 56 rfl Try.underlying38 info78 rfl (by decide) (by omega) v105 t104 (⟨wrap64 ((l0.length : Int) + 1), a1, a2, l3⟩ : S78) [.int .i64 (wrap64 ((l0.length : Int) + 1)), .int .i64 a1, .string a2, .slice A3 l3.length c3] (fun k_ => ((P0_ k_ ∨ P3_ k_) ∨ w.heap.size ≤ k_) ∧ some k_ ≠ (v102 : Value).ownBlock) (fun k_ => ((fun k_ => ((P0_ k_ ∨ P3_ k_) ∨ w.heap.size ≤ k_) ∧ some k_ ≠ (v102 : Value).ownBlock)) k_ ∧ some k_ ≠ (v105 : Value).ownBlock) rfl rfl ?aP (fun _ hk => hk) ?aF ?aO ?aB ?aS ?aL ?_; (case aP => exact (k78_mkF _ _ (⟨wrap64 ((l0.length : Int) + 1), a1, a2, l3⟩ : S78) (Kd.bz_ (Kd.aJ_ (ok' := (fun k_ => ((fun k_ => ((P0_ k_ ∨ P3_ k_) ∨ w.heap.size ≤ k_) ∧ some k_ ≠ (v102 : Value).ownBlock)) k_ ∧ some k_ ≠ (v105 : Value).ownBlock)) (HO3.out) (fun k_ hk => ⟨⟨hk.1.1, hk.1.2⟩, hk.2⟩))).2.1 (Kd.V_F (Kd.aJ_ (ok' := (fun k_ => ((fun k_ => ((P0_ k_ ∨ P3_ k_) ∨ w.heap.size ≤ k_) ∧ some k_ ≠ (v102 : Value).ownBlock)) k_ ∧ some k_ ≠ (v105 : Value).ownBlock)) (HO3.out) (fun k_ hk => ⟨⟨hk.1.1, hk.1.2⟩, hk.2⟩))))); (case aB => exact (bz HB.out)); (case aF => exact (fun k_ hk => ⟨(.inr (Nat.le_trans (ae_ (bz HB.out)) hk)), Kd.fresh' (Kd.S_lt (sz HO103.out)) k_ hk⟩)); (case aO => exact (nz HO106.out)); (case aS => exact (ae_ (bz HB.out))); (case aL => have := LMc7.out; omega); intro v108 w11 ho hb hg hat; rw [← Ny107.out] at ho; replace HO0 := Aside0.mk (Kd.di_ (ok := (fun k_ => ((P0_ k_ ∨ P3_ k_) ∨ w.heap.size ≤ k_) ∧ some k_ ≠ (v102 : Value).ownBlock)) (vz HO0.out) hg hat); replace HO3 := Aside0.mk (Kd.di_ (ok := (fun k_ => ((P0_ k_ ∨ P3_ k_) ∨ w.heap.size ≤ k_) ∧ some k_ ≠ (v102 : Value).ownBlock)) (vz HO3.out) hg hat); replace HO103 := Aside0.mk (Kd.S_after (ok := (fun k_ => (w.heap.size ≤ k_))) (sz (Kd.cl_ HO103.out (fun _ hk => ⟨hk.1.1, hk.2⟩))) hg hat); replace HB := Aside0.mk (hb); have HO109 := Aside0.mk (ho); clear HO106; clear ho hb hg hat; obtain ⟨Ao12, co12, eo12⟩ := Kd.N_slice HO109.out; subst eo12))
  (try simp only [Act.put, lsa_, ls0_, ls1_])
  go_loopg [10, 29] k (fun kq v10 v29 w' => ∃ (x10_1 : List (S78)) (x29_1 : Int), v29 = .int .i64 x29_1 ∧ Aside0 (bq_.l0 kq x10_1 y107 (y107.length : Int) x29_1 = some (r1, r2)) ∧ Aside0 (kq ≤ k) ∧ Aside0 (Kd.S k78 78 w' w.heap.size (fun k_ => (w.heap.size ≤ k_) ∧ some k_ ≠ ((.slice Ao12 y107.length co12) : Value).ownBlock) v10 x10_1) ∧ Aside0 (Kd.N k78 78 w' w.heap.size (fun k_ => ((P0_ k_ ∨ P3_ k_) ∨ w.heap.size ≤ k_) ∧ some k_ ≠ (v10 : Value).ownBlock) (.slice Ao12 y107.length co12) y107) ∧ Aside0 (Below w.heap.size w w'))
  case atStart => exact ⟨(y101), (0), (by first | rfl | (simp; done) | (simp [*]; done)), H', ⟨Nat.le_refl _⟩, ⟨sz HO103.out⟩, ⟨nz HO109.out⟩, ⟨bz HB.out⟩⟩
  case round =>
   clear H'
   obtain ⟨x10_1, x29_1, rfl, HA, HK1, HO_10, HO_27, HB⟩ := hrel
   cases gk with
   | zero => exact absurd HA.out (by simp [bq_.l0])
   | succ k1 =>
    have H := HA.out
    clear HA
    simp only [bq_.l0] at H
    by_cases c13 : x29_1 < (y107.length : Int)
    rotate_left
    ·rw [if_neg c13] at H
     have c13b0 : decide (x29_1 < (y107.length : Int)) = false := decide_eq_false c13
     clear c13
     simp only [Option.some.injEq, Prod.mk.injEq] at H
     obtain ⟨rfl, rfl⟩ := H
     go_wp2
     go_ret2
     exact ⟨_, by first | rfl | (simp [*, ao_, an_] <;> rfl), sz (Kd.cl_ HO_10.out (fun _ hk => hk.1)), bz HB.out⟩
    rw [if_pos c13] at H
    have c13b0 : decide (x29_1 < (y107.length : Int)) = true := decide_eq_true c13
    clear c13
    by_cases c14 : 0 ≤ x29_1
    rotate_left
    ·rw [if_neg c14] at H
     exact absurd H (by simp)
    rw [if_pos c14] at H
    have c14b0 : decide (0 ≤ x29_1) = true := decide_eq_true c14
    clear c14
    by_cases c15 : x29_1 < (y107.length : Int)
    rotate_left
    ·rw [if_neg c15] at H
     exact absurd H (by simp)
    rw [if_pos c15] at H
    have c15b0 : decide (x29_1 < (y107.length : Int)) = true := decide_eq_true c15
    clear c15
    replace H := Option.bind_eq_some_iff.mp H
    obtain ⟨t112, A160, H⟩ := H
    (try dsimp only at H)
    have A16 := Aside0.mk A160
    clear A160
    by_cases c17 : x10_1.length < 2513169434916
    rotate_left
    ·rw [if_neg c17] at H
     exact absurd H (by simp)
    rw [if_pos c17] at H
    have LMc17 := Aside0.mk c17
    clear c17
    obtain ⟨y115, hy115⟩ : ∃ y_ : List (S78), y_ = (x10_1 ++ [(⟨(ar_ y107 x29_1).f0, (ar_ y107 x29_1).f1, (ar_ y107 x29_1).f2, t112⟩ : S78)]) := ⟨_, rfl⟩
    replace H : (bq_.l0 k1 y115 y107 (y107.length : Int) (wrap64 (x29_1 + 1))) = some (r1, r2) := by first | (rw [hy115]; with_reducible exact H) | (have H2_ := (Option.bind_some _ _).symm.trans H; rw [hy115]; with_reducible exact H2_) | (have H2_ := (Option.bind_some _ _).symm.trans H; with_reducible exact H2_) | with_reducible exact H | (rw [hy115]; exact H) | exact H
    have Ny115 := Aside0.mk hy115
    clear hy115
    have H' := Aside0.mk H
    clear H
    have p110 : 0 ≤ (x29_1 : Int) := of_decide_eq_true (by assumption)
    have q110 : x29_1 < (y107.length : Int) := of_decide_eq_true (by assumption)
    obtain ⟨ad110, A110_3, c110_3, e110, hx110_0, hx110_1, hx110_2, hx110_3, hl110_3, hi110_3⟩ := dp_ (Kd.da_ HO_27.out).2.2 x29_1 p110 q110
    cases e110
    obtain ⟨ce110, hce110, hMe110, hcc110⟩ := Kd.N_get HO_27.out z78 x29_1 p110 (by first | exact q110 | exact of_decide_eq_true (by assumption) | (have e_ := (Kd.da_ HO_27.out).1; omega))
    obtain ⟨ua110_3, uc110_3, rfl, ul110_3, ge110_3⟩ := k78_openF hMe110
    have hv110_3 := hcc110 3 _ rfl
    rw [cS_ _ _ 3 (by omega)] at hv110_3
    replace hv110_3 := Option.some.inj (hv110_3.symm.trans hx110_3)
    injection hv110_3 with hva_ hvn_ hvc_
    rw [hva_] at ge110_3
    rw [hvc_] at ul110_3
    have HL110_3 := Aside0.mk (show Kd.V k63 63 _ w.heap.size _ _ ((ar_ y107 x29_1).f3) from Kd.V_mk ul110_3 ge110_3)
    clear hva_ hvn_ hvc_ ge110_3 ul110_3
    clear hcc110 hce110
    have HR110_3 := Aside0.mk hi110_3
    have HC110_3 := Aside0.mk hl110_3
    clear hi110_3 hl110_3
    replace p110 := eq_true p110
    replace q110 := eq_true q110
    go_wp2_with (first | ((with_reducible refine aH_ (N := 12) rfl ?_); refine by_ ?hg (N := 12) ?hd (cs := #[.int .i64 0, .int .i64 0, .string (⟨#[]⟩ : ByteArray), .slice none 0 0]) (t := 78) ?hr ?_; (case hd => rfl); (case hg => rfl); (case hr => (go_simp; try rfl)); intro gb111 hg w18 hbox hb; replace HO_10 := Aside0.mk (Kd.cM_ (Kd.S_elderB (sz HO_10.out) gb111 (Nat.le_of_eq hg.symm)) hb); replace HO_27 := Aside0.mk (Kd.N_below (Kd.N_elderB (nz HO_27.out) gb111 (Nat.le_of_eq hg.symm)) hb); replace HL110_3 := Aside0.mk (Kd.aU_ (Kd.bJ_ (vz HL110_3.out) gb111 (Nat.le_of_eq hg.symm)) hb); replace HR110_3 := Aside0.mk (Kd.bM_ (by repeat (first | (with_reducible exact HR110_3.out) | (with_reducible first | refine Kd.C_alloc ?_ _ | refine Kd.C_drewN ?_ _ | refine Kd.C_drew ?_) | exact HR110_3.out)) hb); have BK111 := Aside0.mk (hbox); have GW111 := Aside0.mk ((by rw [hg]; exact (ae_ (bz HB.out)) : w.heap.size ≤ gb111)); have GE111 := GW111; replace HB := Aside0.mk (ac_ (bz HB.out) hb); clear hb hbox hg; obtain ⟨hcz19_0, hcz19_1, hcz19_2, hcz19_3⟩ := cz4_ BK111.out; obtain ⟨hfz19_0, hfz19_1, hfz19_2, hfz19_3⟩ := fz4_ BK111.out) | ((with_reducible refine ah_ (f := 83) rfl ?_); refine aN_ (some 35) rfl rfl Try.func83 (by kernel_rfl) rfl #[.slice A110_3 ((ar_ y107 x29_1).f3).length c110_3] rfl (by first | rfl | (simp only [lma_, lmc_, lmn_]; first | done | rfl)) ?_; (with_reducible refine (impl_Entry.calls _ _ ((ar_ y107 x29_1).f3) t112 _ ?side1 ?side2 A16.out).mono ?_); (case side1 => repeat (first | exact ((Kd.bz_ (vz (Kd.aJ_ (Kd.V_far (p := ⟨gb111, 3, none⟩) (Kd.V_far (p := ⟨gb111, 2, none⟩) (Kd.V_far (p := ⟨gb111, 1, none⟩) (Kd.V_far (p := ⟨gb111, 0, none⟩) (Kd.aJ_ HL110_3.out (fun k_ hk => (⟨hk, hk.2⟩ : _ ∧ k_ ≠ gb111))) (fun _ hk => hk.2) (.int .i64 ((ar_ y107 x29_1).f0))) (fun _ hk => hk.2) (.int .i64 ((ar_ y107 x29_1).f1))) (fun _ hk => hk.2) (.string ((ar_ y107 x29_1).f2))) (fun _ hk => hk.2) (.slice A110_3 ((ar_ y107 x29_1).f3).length c110_3)) (fun _ h_ => h_.1)))).2.2) | (with_reducible first | refine Kd.C_alloc ?_ _ | refine Kd.C_drewN ?_ _ | refine Kd.C_drew ?_))); (case side2 => exact HC110_3.out); rintro e w20 ⟨v113, rfl, ho0, hb⟩; refine ⟨_, rfl, ?_⟩; replace HO_10 := Aside0.mk (Kd.S_elder' (sz (Kd.cl_ (Kd.S_far (p := ⟨gb111, 3, none⟩) (Kd.S_far (p := ⟨gb111, 2, none⟩) (Kd.S_far (p := ⟨gb111, 1, none⟩) (Kd.S_far (p := ⟨gb111, 0, none⟩) (Kd.cl_ HO_10.out (fun k_ hk => (⟨hk, hk.2⟩ : _ ∧ k_ ≠ gb111))) (fun _ hk => hk.2) (.int .i64 ((ar_ y107 x29_1).f0))) (fun _ hk => hk.2) (.int .i64 ((ar_ y107 x29_1).f1))) (fun _ hk => hk.2) (.string ((ar_ y107 x29_1).f2))) (fun _ hk => hk.2) (.slice A110_3 ((ar_ y107 x29_1).f3).length c110_3)) (fun _ h_ => h_.1))) (Kd.aZ_ ho0) hb); replace HO_27 := Aside0.mk (Kd.N_elder' (nz (Kd.co_ (Kd.N_far (p := ⟨gb111, 3, none⟩) (Kd.N_far (p := ⟨gb111, 2, none⟩) (Kd.N_far (p := ⟨gb111, 1, none⟩) (Kd.N_far (p := ⟨gb111, 0, none⟩) (Kd.co_ HO_27.out (fun k_ hk => (⟨hk, hk.2⟩ : _ ∧ k_ ≠ gb111))) (fun _ hk => hk.2) (.int .i64 ((ar_ y107 x29_1).f0))) (fun _ hk => hk.2) (.int .i64 ((ar_ y107 x29_1).f1))) (fun _ hk => hk.2) (.string ((ar_ y107 x29_1).f2))) (fun _ hk => hk.2) (.slice A110_3 ((ar_ y107 x29_1).f3).length c110_3)) (fun _ h_ => h_.1))) (Kd.aZ_ ho0) hb); have HO114 := Aside0.mk (Kd.bt_ (Kd.do_ (M := fun k_ => (w.heap.size ≤ k_)) ho0 (ae_ (bq)) (fun k_ h_ => h_)) (ae_ (bq))); replace HR110_3 := Aside0.mk (Kd.bM_ ((Kd.bz_ (vz (Kd.aJ_ (Kd.V_far (p := ⟨gb111, 3, none⟩) (Kd.V_far (p := ⟨gb111, 2, none⟩) (Kd.V_far (p := ⟨gb111, 1, none⟩) (Kd.V_far (p := ⟨gb111, 0, none⟩) (Kd.aJ_ HL110_3.out (fun k_ hk => (⟨hk, hk.2⟩ : _ ∧ k_ ≠ gb111))) (fun _ hk => hk.2) (.int .i64 ((ar_ y107 x29_1).f0))) (fun _ hk => hk.2) (.int .i64 ((ar_ y107 x29_1).f1))) (fun _ hk => hk.2) (.string ((ar_ y107 x29_1).f2))) (fun _ hk => hk.2) (.slice A110_3 ((ar_ y107 x29_1).f3).length c110_3)) (fun _ h_ => h_.1)))).2.2) hb); replace HL110_3 := Aside0.mk (Kd.bQ_ (vz (Kd.aJ_ (Kd.V_far (p := ⟨gb111, 3, none⟩) (Kd.V_far (p := ⟨gb111, 2, none⟩) (Kd.V_far (p := ⟨gb111, 1, none⟩) (Kd.V_far (p := ⟨gb111, 0, none⟩) (Kd.aJ_ HL110_3.out (fun k_ hk => (⟨hk, hk.2⟩ : _ ∧ k_ ≠ gb111))) (fun _ hk => hk.2) (.int .i64 ((ar_ y107 x29_1).f0))) (fun _ hk => hk.2) (.int .i64 ((ar_ y107 x29_1).f1))) (fun _ hk => hk.2) (.string ((ar_ y107 x29_1).f2))) (fun _ hk => hk.2) (.slice A110_3 ((ar_ y107 x29_1).f3).length c110_3)) (fun _ h_ => h_.1))) (Kd.aZ_ ho0) hb); replace BK111 := Aside0.mk (bb_ (g := gb111) (o := .cells #[.int .i64 ((ar_ y107 x29_1).f0), .int .i64 ((ar_ y107 x29_1).f1), .string ((ar_ y107 x29_1).f2), .slice A110_3 ((ar_ y107 x29_1).f3).length c110_3] 78 (0, 0)) (by exact kj4_3 (kj4_2 (kj4_1 (kj4_0 (kz BK111.out))))) hb); replace HB := Aside0.mk (ac_ (bq) hb); (try clear hb); (try clear ho0); obtain ⟨Ao21, co21, eo21⟩ := Kd.bn_ HO114.out; subst eo21; obtain ⟨hcz22_0, hcz22_1, hcz22_2, hcz22_3⟩ := cz4_ BK111.out; obtain ⟨hfz22_0, hfz22_1, hfz22_2, hfz22_3⟩ := fz4_ BK111.out) | ((with_reducible refine gate_store (t := 27) (p := 36) rfl ?_); refine store_event (t := 27) (p := 36) (v := ?vo_w23) (w1 := (w20.setCell ⟨gb111, 3, none⟩ (.slice Ao21 t112.length co21))) ?hg ?ho ?hn ?hr ?_; (case ho => rfl); (case hg => rfl); (case hn => rfl); (case hr => (go_simp; try rfl)); intro w23 hw; replace HO_10 : Aside0 (Kd.S k78 78 w23 w.heap.size (fun k_ => (w.heap.size ≤ k_) ∧ some k_ ≠ (.slice (some ad110) y107.length co12 : Value).ownBlock ∧ some k_ ≠ (.slice Ao21 t112.length co21 : Value).ownBlock ∧ k_ ≠ gb111) u10 x10_1) := ⟨(by rw [hw]; exact (sz (Kd.cl_ (Kd.S_far (p := ⟨gb111, 3, none⟩) (Kd.cl_ HO_10.out (fun k_ hk => (⟨hk, hk.1.2⟩ : _ ∧ k_ ≠ gb111))) (fun _ hk => hk.2) (.slice Ao21 t112.length co21)) (fun _ hk => ⟨hk.1.1.1.1, ⟨hk.1.1.1.2, ⟨hk.1.2, hk.1.1.2⟩⟩⟩))))⟩; replace HO_27 : Aside0 (Kd.N k78 78 w23 w.heap.size (fun k_ => ((P0_ k_ ∨ P3_ k_) ∨ w.heap.size ≤ k_) ∧ some k_ ≠ (u10 : Value).ownBlock ∧ some k_ ≠ (.slice Ao21 t112.length co21 : Value).ownBlock ∧ k_ ≠ gb111) (.slice (some ad110) y107.length co12) y107) := ⟨(by rw [hw]; exact (nz (Kd.co_ (Kd.N_far (p := ⟨gb111, 3, none⟩) (Kd.co_ HO_27.out (fun k_ hk => (⟨hk, hk.1.2⟩ : _ ∧ k_ ≠ gb111))) (fun _ hk => hk.2) (.slice Ao21 t112.length co21)) (fun _ hk => ⟨hk.1.1.1.1, ⟨hk.1.1.1.2, ⟨hk.1.2, hk.1.1.2⟩⟩⟩))))⟩; replace HL110_3 : Aside0 (Kd.V k63 63 w23 w.heap.size (fun k_ => ((P0_ k_ ∨ P3_ k_) ∨ w.heap.size ≤ k_) ∧ some k_ ≠ (u10 : Value).ownBlock ∧ some k_ ≠ (.slice (some ad110) y107.length co12 : Value).ownBlock ∧ some k_ ≠ (.slice Ao21 t112.length co21 : Value).ownBlock ∧ k_ ≠ gb111) (.slice A110_3 ((ar_ y107 x29_1).f3).length c110_3) ((ar_ y107 x29_1).f3)) := ⟨(by rw [hw]; exact (vz (Kd.aJ_ (Kd.V_far (p := ⟨gb111, 3, none⟩) (Kd.aJ_ HL110_3.out (fun k_ hk => (⟨hk, hk.1.2⟩ : _ ∧ k_ ≠ gb111))) (fun _ hk => hk.2) (.slice Ao21 t112.length co21)) (fun _ hk => ⟨hk.1.1.1.1.1, ⟨hk.1.1.1.1.2, ⟨hk.1.1.1.2, ⟨hk.1.2, hk.1.1.2⟩⟩⟩⟩))))⟩; replace HO114 : Aside0 (Kd.R k63 63 w23 w.heap.size (fun k_ => (w.heap.size ≤ k_)) (.slice Ao21 t112.length co21) t112) := ⟨(by rw [hw]; exact (rz (Kd.aB_ (Kd.R_far (p := ⟨gb111, 3, none⟩) (Kd.bs_ HO114.out BK111.out (by decide)) (fun _ hk => hk.2) (.slice Ao21 t112.length co21)) (fun _ hk => hk.1.1))))⟩; replace BK111 : Aside0 (w23.heap[gb111]? = some (.cells #[.int .i64 ((ar_ y107 x29_1).f0), .int .i64 ((ar_ y107 x29_1).f1), .string ((ar_ y107 x29_1).f2), .slice Ao21 t112.length co21] 78 (0, 0))) := ⟨(by rw [hw]; exact (by exact kj4_3 (kz BK111.out)))⟩; replace HB : Aside0 (Below w.heap.size w w23) := ⟨(by rw [hw]; exact (bq))⟩; clear hw; obtain ⟨hcz24_0, hcz24_1, hcz24_2, hcz24_3⟩ := cz4_ BK111.out; obtain ⟨hfz24_0, hfz24_1, hfz24_2, hfz24_3⟩ := fz4_ BK111.out) | ((with_reducible refine be_ (b := .append) (xs := #[.tmp 37, .tmp 39]) rfl ?_); at_builtin; refine Kd.S_append k78 (w0 := w) w.heap.size rfl (.tmp 37) (.tmp 39) 38 78 (.agg #[(.int .i64 0), (.int .i64 0), (.string ⟨#[]⟩), (.slice none 0 0)]) 56 rfl Try.underlying38 info78 rfl (by decide) (by omega) u10 x10_1 (⟨(ar_ y107 x29_1).f0, (ar_ y107 x29_1).f1, (ar_ y107 x29_1).f2, t112⟩ : S78) [.int .i64 ((ar_ y107 x29_1).f0), .int .i64 ((ar_ y107 x29_1).f1), .string ((ar_ y107 x29_1).f2), .slice Ao21 t112.length co21] (fun k_ => (w.heap.size ≤ k_) ∧ some k_ ≠ (.slice (some ad110) y107.length co12 : Value).ownBlock ∧ k_ ≠ gb111) (fun k_ => some k_ = (.slice Ao21 t112.length co21 : Value).ownBlock) rfl rfl ?aP (fun k_ hk_ => ((Kd.aB_ (ok' := fun k_ => ((fun k_ => (w.heap.size ≤ k_) ∧ some k_ ≠ (.slice (some ad110) y107.length co12 : Value).ownBlock ∧ k_ ≠ gb111)) k_ ∧ some k_ ≠ (u10 : Value).ownBlock) (Kd.bs_ (Kd.cn_ (Kd.cn_ (HO114.out) (Kd.N_typed HO_27.out) (by decide)) (Kd.S_typed HO_10.out) (by decide)) BK111.out (by decide)) (fun k_ hk => ⟨⟨hk.1.1.1, ⟨hk.1.1.2, hk.2⟩⟩, hk.1.2⟩))).1 k_ hk_.symm) ?aF ?aO ?aB ?aS ?aL ?_; (case aP => exact k78_mkM _ _ _ (⟨(ar_ y107 x29_1).f0, (ar_ y107 x29_1).f1, (ar_ y107 x29_1).f2, t112⟩ : S78) (Kd.aB_ (Kd.cD_ rfl (Kd.aB_ (ok' := fun k_ => ((fun k_ => (w.heap.size ≤ k_) ∧ some k_ ≠ (.slice (some ad110) y107.length co12 : Value).ownBlock ∧ k_ ≠ gb111)) k_ ∧ some k_ ≠ (u10 : Value).ownBlock) (Kd.bs_ (Kd.cn_ (Kd.cn_ (HO114.out) (Kd.N_typed HO_27.out) (by decide)) (Kd.S_typed HO_10.out) (by decide)) BK111.out (by decide)) (fun k_ hk => ⟨⟨hk.1.1.1, ⟨hk.1.1.2, hk.2⟩⟩, hk.1.2⟩))) (fun _ h_ => h_))); (case aB => exact (bq)); (case aF => exact (fun k_ hk => ⟨(Nat.le_trans (ae_ (bq)) hk), Kd.fresh' (Kd.N_lt (nz HO_27.out)) k_ hk, Kd.cV_ (g := gb111) (o := .cells #[.int .i64 ((ar_ y107 x29_1).f0), .int .i64 ((ar_ y107 x29_1).f1), .string ((ar_ y107 x29_1).f2), .slice Ao21 t112.length co21] 78 (0, 0)) (kz BK111.out) k_ hk⟩)); (case aO => exact (sz (Kd.cl_ HO_10.out (fun k_ hk => ⟨⟨hk.1, ⟨hk.2.1, hk.2.2.2⟩⟩, fun e_ => hk.2.2.1 e_⟩)))); (case aS => exact (ae_ (bq))); (case aL => have := LMc17.out; omega); intro v116 w25 ho hb hg hat; rw [← Ny115.out] at ho; replace HO_27 := Aside0.mk (Kd.N_afterv (ok := (fun k_ => ((P0_ k_ ∨ P3_ k_) ∨ w.heap.size ≤ k_) ∧ some k_ ≠ (.slice Ao21 t112.length co21 : Value).ownBlock ∧ k_ ≠ gb111)) (nz (Kd.co_ HO_27.out (fun _ hk => ⟨⟨hk.1, ⟨hk.2.2.1, hk.2.2.2⟩⟩, hk.2.1⟩))) hg hat); replace HL110_3 := Aside0.mk (Kd.di_ (ok := (fun k_ => ((P0_ k_ ∨ P3_ k_) ∨ w.heap.size ≤ k_) ∧ some k_ ≠ (.slice (some ad110) y107.length co12 : Value).ownBlock ∧ some k_ ≠ (.slice Ao21 t112.length co21 : Value).ownBlock ∧ k_ ≠ gb111)) (vz (Kd.aJ_ HL110_3.out (fun _ hk => ⟨⟨hk.1, ⟨hk.2.2.1, ⟨hk.2.2.2.1, hk.2.2.2.2⟩⟩⟩, hk.2.1⟩))) hg hat); replace BK111 := Aside0.mk (bS_ (g := gb111) (o := .cells #[.int .i64 ((ar_ y107 x29_1).f0), .int .i64 ((ar_ y107 x29_1).f1), .string ((ar_ y107 x29_1).f2), .slice Ao21 t112.length co21] 78 (0, 0)) (kz BK111.out) hg (Kd.S_away HO_10.out (fun _ hk => hk.2.2.2))); replace HB := Aside0.mk (hb); have HO117 := Aside0.mk (ho); clear HO_10; clear HO114; clear ho hb hg hat))
    go_roundg k1
    case measure => have := HK1.out; omega
    case rel => exact ⟨(y115), (wrap64 (x29_1 + 1)), (by first | rfl | (simp; done) | (simp [*]; done)), H', ⟨by have := HK1.out; omega⟩, ⟨sz (Kd.cl_ HO117.out (fun _ hk => ⟨hk.1, hk.2.1⟩))⟩, ⟨nz (Kd.co_ HO_27.out (fun _ hk => ⟨hk.1.1, hk.2⟩))⟩, ⟨bq⟩⟩
 rw [if_pos c5] at H
 have c5b0 : ((l0.length : Int) == 16) = true := beq_iff_eq.mpr c5
 have c5b1 : ((l0.length : Int) != 16) = false := bne_eq_false_iff_eq.mpr c5
 clear c5
 simp only [Option.some.injEq, Prod.mk.injEq] at H
 obtain ⟨rfl, rfl⟩ := H
 go_enter Try.func57, Try.ntmps57
 go_wp2
 go_ret2
 exact ⟨_, by first | rfl | (simp [*, ao_, an_] <;> rfl), by first | exact Kd.S_nil _ _ _ _ _ | exact Kd.N_nil _ _ _ _ _ | exact Kd.V_nil _ _ _ _ _ | exact Kd.Q_nil _ _ _ _ _ | exact Kd.R_nil _ _ _ _ _, bz HB.out⟩
def aI_.j0 : Nat → List (S78) → Int → Int → ByteArray → Int → Option ((List (S78)) × Int)
 | 0, _, _, _, _, _ => none
 | k + 1, x0, x1, x2, x3, x10 => if x10 = 0 then ((aF_.f k x0 x1 x2).bind fun t106 => ((cy_.f x0 t106).bind fun t107 => ((cy_.f x0 x1).bind fun t110 => ((cy_.f x0 x2).bind fun t113 => ((al_.f k t107 t110 t113).bind fun bt116 => (if bt116.2 = 0 then ((bq_.f k x0 x1 x3 bt116.1).bind fun bt120 => (some (bt120.1, bt120.2))) else (some (([] : List (S78)), bt116.2)))))))) else (some (([] : List (S78)), x10))
def aI_.f (k : Nat) (l0 : List (S78)) (a1 : Int) (a2 : Int) (a3 : ByteArray) : Option ((List (S78)) × Int) := (aG_.f k l0 (([a1, a2] : List Int))).bind fun t104 => ((bm_.f k a3).bind fun t105 => (if t105 = true then (aI_.j0 k l0 a1 a2 a3 t104) else (aI_.j0 k l0 a1 a2 a3 1)))
set_option maxHeartbeats 8000000 in
set_option maxRecDepth 100000 in
theorem aI_.calls (k : Nat) (A0 : Option Addr) (c0 : Nat) (l0 : List (S78)) (a1 : Int) (a2 : Int) (a3 : ByteArray) (r1 : List (S78)) (r2 : Int) (w : World) (hr0 : Kd.C k78 w A0 l0.length l0) (hc0 : l0.length ≤ c0) (h : aI_.f k l0 a1 a2 a3 = some (r1, r2)) :
  Calls Try.prog 22 #[.slice A0 l0.length c0, .int .i64 a1, .int .i64 a2, .string a3] w fun e w' => ∃ v0_ : Value, e = .returned (.tuple #[v0_, .int .i64 r2]) ∧ Kd.S k78 78 w' w.heap.size (fun _ => True) v0_ r1 ∧ Below w.heap.size w w' := by
 have HR0 := Aside0.mk hr0
 have HC0 := Aside0.mk hc0
 clear hr0 hc0
 have HB := Aside0.mk (Below.refl w.heap.size w)
 have H : ((aG_.f k l0 (([a1, a2] : List Int))).bind fun t104 => ((bm_.f k a3).bind fun t105 => (if t105 = true then (aI_.j0 k l0 a1 a2 a3 t104) else (aI_.j0 k l0 a1 a2 a3 1)))) = some (r1, r2) := h
 clear h
 obtain ⟨y101, hy101⟩ : ∃ y_ : List Int, y_ = (([a1, a2] : List Int)) := ⟨_, rfl⟩
 replace H : ((aG_.f k l0 y101).bind fun t104 => ((bm_.f k a3).bind fun t105 => (if t105 = true then (aI_.j0 k l0 a1 a2 a3 t104) else (aI_.j0 k l0 a1 a2 a3 1)))) = some (r1, r2) := by first | (rw [hy101]; with_reducible exact H) | (have H2_ := (Option.bind_some _ _).symm.trans H; rw [hy101]; with_reducible exact H2_) | (have H2_ := (Option.bind_some _ _).symm.trans H; with_reducible exact H2_) | with_reducible exact H | (rw [hy101]; exact H) | exact H
 have Ny101 := Aside0.mk hy101
 clear hy101
 replace H := Option.bind_eq_some_iff.mp H
 obtain ⟨t104, A50, H⟩ := H
 (try dsimp only at H)
 have A5 := Aside0.mk A50
 clear A50
 replace H := Option.bind_eq_some_iff.mp H
 obtain ⟨t105, A60, H⟩ := H
 (try dsimp only at H)
 have A6 := Aside0.mk A60
 clear A60
 have HC7 := Aside0.mk H
 clear H
 go_enter Try.func22, Try.ntmps22
 go_upto_if 19 with (first | ((with_reducible refine aH_ (N := 15) rfl ?_); refine Kd.R_lit (Kd.int .i64) _ 2 ?hg (N := 15) ?hd (xs := ([a1, a2] : List Int)) (inner := [.int .i64 a1, .int .i64 a2]) (ok := fun _ => True) (okp := fun _ => True) ?hr ?hp (fun _ hk => hk) trivial (Below.refl _ _) (Nat.le_refl _) (by simp) ?_; (case hd => rfl); (case hg => rfl); (case hr => (go_simp; try rfl)); (case hp => exact (Reps.one (show Kd.M (Kd.int .i64) _ _ _ a1 [.int .i64 a1] from rfl) (Reps.one (show Kd.M (Kd.int .i64) _ _ _ a2 [.int .i64 a2] from rfl) (Reps.none _ _)))); intro v102 w8 ho9 hb hg_ hnew_; clear hg_ hnew_; (first | rw [← Ny101.out] at ho9 | (simp only [Int.reduceToNat] at ho9; rw [← Ny101.out] at ho9)); have HO103 := Aside0.mk (Kd.bt_ ho9 (ae_ (bz HB.out))); replace HB := Aside0.mk (ac_ (bz HB.out) hb); clear hb ho9; obtain ⟨Ao10, co10, eo10⟩ := Kd.bn_ HO103.out; subst eo10) | ((with_reducible refine ah_ (f := 53) rfl ?_); refine aN_ (some 16) rfl rfl Try.func53 (by kernel_rfl) rfl #[.slice A0 l0.length c0, .slice Ao10 y101.length co10] rfl (by first | rfl | (simp only [lma_, lmc_, lmn_]; first | done | rfl)) ?_; (with_reducible refine (aG_.calls k _ _ l0 _ _ y101 t104 _ ?side1 ?side2 ?side3 ?side4 A5.out).mono ?_); (case side1 => exact cz (Kd.bM_ HR0.out HB.out)); (case side2 => exact HC0.out); (case side3 => exact cz (Kd.as_ HO103.out).2.2); (case side4 => exact (Kd.as_ HO103.out).2.1); rintro e w11 ⟨rfl, hb⟩; refine ⟨_, rfl, ?_⟩; replace HO103 := Aside0.mk (Kd.aT_ (rz HO103.out) hb); replace HB := Aside0.mk (ac_ (bz HB.out) hb); (try clear hb)) | ((with_reducible refine ah_ (f := 54) rfl ?_); refine aN_ (some 18) rfl rfl Try.func54 (by kernel_rfl) rfl #[.string a3] rfl (by first | rfl | (simp only [lma_, lmc_, lmn_]; first | done | rfl)) ?_; (with_reducible refine (bm_.calls k a3 t105 _ A6.out).mono ?_); rintro e w' ⟨rfl, ⟨nd, rfl⟩⟩; refine ⟨_, rfl, ?_⟩; (try (rw [bL_ w11]; generalize hq_ : World.drewN w11 _ = w11; replace HO103 := Aside0.mk (rqR hq_ HO103.out); replace HB := Aside0.mk (rqH hq_ HB.out); clear hq_))))
 (try simp only [Act.put, lsa_, ls0_, ls1_])
 go_cut [10] (fun v10 wc => ∃ (kq : Nat) (x10_6 : Int), v10 = .int .i64 x10_6 ∧ Aside0 (aI_.j0 kq l0 a1 a2 a3 x10_6 = some (r1, r2)) ∧ Aside0 (kq ≤ k) ∧ Aside0 (Below w.heap.size w wc))
 case first =>
  have H := HC7.out
  clear HC7
  by_cases c12 : t105 = true
  rotate_left
  ·replace c12 := Bool.eq_false_iff.mpr c12
   subst c12
   have H1 : (aI_.j0 k l0 a1 a2 a3 1) = some (r1, r2) := by rw [if_neg (show ¬ (false = true) by decide)] at H; exact H
   clear H
   have H := H1
   clear H1
   have H' := Aside0.mk H
   clear H
   go_wp2
   go_meet
   case rel => exact ⟨_, (1), (by first | rfl | (simp; done) | (simp [*]; done)), H', ⟨by first | omega | exact Nat.le_refl _⟩, ⟨bz HB.out⟩⟩
  subst c12
  have H1 : (aI_.j0 k l0 a1 a2 a3 t104) = some (r1, r2) := by rw [if_pos rfl] at H; exact H
  clear H
  have H := H1
  clear H1
  have H' := Aside0.mk H
  clear H
  go_wp2
  go_meet
  case rel => exact ⟨_, (t104), (by first | rfl | (simp; done) | (simp [*]; done)), H', ⟨by first | omega | exact Nat.le_refl _⟩, ⟨bz HB.out⟩⟩
 case rest =>
  clear HC7
  obtain ⟨kq, x10_6, rfl, HA, HJ6, HB⟩ := hcut
  cases kq with
  | zero => exact absurd HA.out (by simp [aI_.j0])
  | succ kj6 =>
   have H := HA.out
   clear HA
   simp only [aI_.j0] at H
   by_cases c13 : x10_6 = 0
   rotate_left
   ·rw [if_neg c13] at H
    have c13b0 : (x10_6 == 0) = false := beq_eq_false_iff_ne.mpr c13
    have c13b1 : (x10_6 != 0) = true := bne_iff_ne.mpr c13
    simp only [Option.some.injEq, Prod.mk.injEq] at H
    obtain ⟨rfl, rfl⟩ := H
    go_wp2
    go_ret2
    exact ⟨_, by first | rfl | (simp [*, ao_, an_] <;> rfl), by first | exact Kd.S_nil _ _ _ _ _ | exact Kd.N_nil _ _ _ _ _ | exact Kd.V_nil _ _ _ _ _ | exact Kd.Q_nil _ _ _ _ _ | exact Kd.R_nil _ _ _ _ _, bz HB.out⟩
   rw [if_pos c13] at H
   have c13b0 : (x10_6 == 0) = true := beq_iff_eq.mpr c13
   have c13b1 : (x10_6 != 0) = false := bne_eq_false_iff_eq.mpr c13
   clear c13
   replace H := Option.bind_eq_some_iff.mp H
   obtain ⟨t106, A140, H⟩ := H
   (try dsimp only at H)
   have A14 := Aside0.mk A140
   clear A140
   replace H := Option.bind_eq_some_iff.mp H
   obtain ⟨t107, A150, H⟩ := H
   (try dsimp only at H)
   have A15 := Aside0.mk A150
   clear A150
   replace H := Option.bind_eq_some_iff.mp H
   obtain ⟨t110, A160, H⟩ := H
   (try dsimp only at H)
   have A16 := Aside0.mk A160
   clear A160
   replace H := Option.bind_eq_some_iff.mp H
   obtain ⟨t113, A170, H⟩ := H
   (try dsimp only at H)
   have A17 := Aside0.mk A170
   clear A170
   replace H := Option.bind_eq_some_iff.mp H
   obtain ⟨⟨t116, t119⟩, A180, H⟩ := H
   (try dsimp only at H)
   have A18 := Aside0.mk A180
   clear A180
   have HC19 := Aside0.mk H
   clear H
   go_upto_if 40 with (first | ((with_reducible refine ah_ (f := 56) rfl ?_); refine aN_ (some 28) rfl rfl Try.func56 (by kernel_rfl) rfl #[.slice A0 l0.length c0, .int .i64 a1, .int .i64 a2] rfl (by first | rfl | (simp only [lma_, lmc_, lmn_]; first | done | rfl)) ?_; (with_reducible refine (aF_.calls kj6 _ _ l0 a1 a2 t106 _ ?side1 ?side2 A14.out).mono ?_); (case side1 => exact cz (Kd.bM_ HR0.out HB.out)); (case side2 => exact HC0.out); rintro e w20 ⟨rfl, hb⟩; refine ⟨_, rfl, ?_⟩; replace HB := Aside0.mk (ac_ (bz HB.out) hb); (try clear hb)) | ((with_reducible refine ah_ (f := 55) rfl ?_); refine aN_ (some 29) rfl rfl Try.func55 (by kernel_rfl) rfl #[.slice A0 l0.length c0, .int .i64 t106] rfl (by first | rfl | (simp only [lma_, lmc_, lmn_]; first | done | rfl)) ?_; (with_reducible refine (cy_.calls (fun k_ => k_ < w.heap.size) _ _ l0 t106 t107 _ ?side1 A15.out).mono ?_); (case side1 => exact Kd.V_mk HC0.out (Kd.F_below (Kd.C_F k78_heap HR0.out) (bz HB.out))); rintro e w21 ⟨v108, rfl, ho0, hb⟩; refine ⟨_, rfl, ?_⟩; have HO109 := Aside0.mk (Kd.V_lower (Kd.aJ_ (ok' := fun k_ => True) ho0 (fun k_ hk_ => trivial)) (ae_ (bz HB.out))); replace HB := Aside0.mk (ac_ (bz HB.out) hb); (try clear hb); (try clear ho0)) | ((with_reducible refine ah_ (f := 55) rfl ?_); refine aN_ (some 32) rfl rfl Try.func55 (by kernel_rfl) rfl #[.slice A0 l0.length c0, .int .i64 a1] rfl (by first | rfl | (simp only [lma_, lmc_, lmn_]; first | done | rfl)) ?_; (with_reducible refine (cy_.calls (fun k_ => k_ < w.heap.size) _ _ l0 a1 t110 _ ?side1 A16.out).mono ?_); (case side1 => exact Kd.V_mk HC0.out (Kd.F_below (Kd.C_F k78_heap HR0.out) (bz HB.out))); rintro e w22 ⟨v111, rfl, ho0, hb⟩; refine ⟨_, rfl, ?_⟩; replace HO109 := Aside0.mk (Kd.aU_ (vz HO109.out) hb); have HO112 := Aside0.mk (Kd.V_lower (Kd.aJ_ (ok' := fun k_ => True) ho0 (fun k_ hk_ => trivial)) (ae_ (bz HB.out))); replace HB := Aside0.mk (ac_ (bz HB.out) hb); (try clear hb); (try clear ho0)) | ((with_reducible refine ah_ (f := 55) rfl ?_); refine aN_ (some 35) rfl rfl Try.func55 (by kernel_rfl) rfl #[.slice A0 l0.length c0, .int .i64 a2] rfl (by first | rfl | (simp only [lma_, lmc_, lmn_]; first | done | rfl)) ?_; (with_reducible refine (cy_.calls (fun k_ => k_ < w.heap.size) _ _ l0 a2 t113 _ ?side1 A17.out).mono ?_); (case side1 => exact Kd.V_mk HC0.out (Kd.F_below (Kd.C_F k78_heap HR0.out) (bz HB.out))); rintro e w23 ⟨v114, rfl, ho0, hb⟩; refine ⟨_, rfl, ?_⟩; replace HO109 := Aside0.mk (Kd.aU_ (vz HO109.out) hb); replace HO112 := Aside0.mk (Kd.aU_ (vz HO112.out) hb); have HO115 := Aside0.mk (Kd.V_lower (Kd.aJ_ (ok' := fun k_ => True) ho0 (fun k_ hk_ => trivial)) (ae_ (bz HB.out))); replace HB := Aside0.mk (ac_ (bz HB.out) hb); (try clear hb); (try clear ho0); obtain ⟨Ao24, co24, eo24⟩ := Kd.V_slice HO109.out; subst eo24; obtain ⟨Ao25, co25, eo25⟩ := Kd.V_slice HO112.out; subst eo25; obtain ⟨Ao26, co26, eo26⟩ := Kd.V_slice HO115.out; subst eo26) | ((with_reducible refine ah_ (f := 17) rfl ?_); refine aN_ (some 36) rfl rfl Try.func17 (by kernel_rfl) rfl #[.slice Ao24 t107.length co24, .slice Ao25 t110.length co25, .slice Ao26 t113.length co26] rfl (by first | rfl | (simp only [lma_, lmc_, lmn_]; first | done | rfl)) ?_; (with_reducible refine (al_.calls kj6 _ _ t107 (fun k_ => True) _ _ t110 (fun k_ => True) _ _ t113 t116 t119 _ ?side1 ?side2 ?side3 ?side4 A18.out).mono ?_); (case side1 => exact cz (Kd.bz_ HO109.out).2.2); (case side2 => exact (Kd.bz_ HO109.out).2.1); (case side3 => exact HO112.out); (case side4 => exact HO115.out); rintro e w27 ⟨v117, rfl, ho0, hb⟩; refine ⟨_, rfl, ?_⟩; replace HO109 := Aside0.mk (Kd.bQ_ (vz HO109.out) (Kd.aZ_ ho0) hb); replace HO112 := Aside0.mk (Kd.bQ_ (vz HO112.out) (Kd.aZ_ ho0) hb); replace HO115 := Aside0.mk (Kd.bQ_ (vz HO115.out) (Kd.aZ_ ho0) hb); have HO118 := Aside0.mk (Kd.bt_ (Kd.aB_ (ok' := fun k_ => True) ho0 (fun _ hk_ => trivial)) (ae_ (bz HB.out))); replace HB := Aside0.mk (ac_ (bz HB.out) hb); (try clear hb); (try clear ho0)))
   (try simp only [Act.put, lsa_, ls0_, ls1_])
   have H := HC19.out
   clear HC19
   by_cases c28 : t119 = 0
   rotate_left
   ·rw [if_neg c28] at H
    have c28b0 : (t119 == 0) = false := beq_eq_false_iff_ne.mpr c28
    have c28b1 : (t119 != 0) = true := bne_iff_ne.mpr c28
    (first | rw [c28b0] | (simp only [i64_w, i32_w]; rw [c28b0]) | (simp only [c28b1, Bool.not_true, Bool.not_false]) | (simp only [c28b0, Bool.not_true, Bool.not_false]) | skip)
    simp only [Option.some.injEq, Prod.mk.injEq] at H
    obtain ⟨rfl, rfl⟩ := H
    go_wp2
    go_ret2
    exact ⟨_, by first | rfl | (simp [*, ao_, an_] <;> rfl), by first | exact Kd.S_nil _ _ _ _ _ | exact Kd.N_nil _ _ _ _ _ | exact Kd.V_nil _ _ _ _ _ | exact Kd.Q_nil _ _ _ _ _ | exact Kd.R_nil _ _ _ _ _, bz HB.out⟩
   rw [if_pos c28] at H
   have c28b0 : (t119 == 0) = true := beq_iff_eq.mpr c28
   have c28b1 : (t119 != 0) = false := bne_eq_false_iff_eq.mpr c28
   clear c28
   (first | rw [c28b0] | (simp only [i64_w, i32_w]; rw [c28b0]) | (simp only [c28b1, Bool.not_true, Bool.not_false]) | (simp only [c28b0, Bool.not_true, Bool.not_false]) | skip)
   replace H := Option.bind_eq_some_iff.mp H
   obtain ⟨⟨t120, t123⟩, A290, H⟩ := H
   (try dsimp only at H)
   have A29 := Aside0.mk A290
   clear A290
   simp only [Option.some.injEq, Prod.mk.injEq] at H
   obtain ⟨rfl, rfl⟩ := H
   obtain ⟨Ao30, co30, eo30⟩ := Kd.bn_ HO118.out
   subst eo30
   go_wp2_with (first | ((with_reducible refine ah_ (f := 57) rfl ?_); refine aN_ (some 46) rfl rfl Try.func57 (by kernel_rfl) rfl #[.slice A0 l0.length c0, .int .i64 a1, .string a3, .slice Ao30 t116.length co30] rfl (by first | rfl | (simp only [lma_, lmc_, lmn_]; first | done | rfl)) ?_; (with_reducible refine (bq_.calls kj6 (fun k_ => k_ < w.heap.size) _ _ l0 a1 a3 (fun k_ => some k_ = (.slice Ao30 t116.length co30 : Value).ownBlock) _ _ t116 t120 t123 _ ?side1 ?side2 A29.out).mono ?_); (case side1 => exact Kd.V_mk HC0.out (Kd.F_below (Kd.C_F k78_heap HR0.out) (bz HB.out))); (case side2 => exact Kd.R_V (Kd.cD_ rfl (HO118.out))); rintro e w31 ⟨v121, rfl, ho0, hb⟩; refine ⟨_, rfl, ?_⟩; replace HO109 := Aside0.mk (Kd.bQ_ (vz HO109.out) (Kd.S_base ho0) hb); replace HO112 := Aside0.mk (Kd.bQ_ (vz HO112.out) (Kd.S_base ho0) hb); replace HO115 := Aside0.mk (Kd.bQ_ (vz HO115.out) (Kd.S_base ho0) hb); have HO122 := Aside0.mk (Kd.S_lower (Kd.S_new' (Kd.cl_ (ok' := fun k_ => True) ho0 (fun _ hk_ => trivial)) (Kd.R_lt (rz HO118.out))) (ae_ (bz HB.out))); replace HO118 := Aside0.mk (Kd.aT_ (rz HO118.out) hb); replace HB := Aside0.mk (ac_ (bz HB.out) hb); (try clear hb); (try clear ho0)))
   go_ret2
   exact ⟨_, by first | rfl | (simp [*, ao_, an_] <;> rfl), sz (Kd.cl_ HO122.out (fun _ hk => trivial)), bz HB.out⟩
def cX_.f (l0 : List Int) (l1 : List Int) : Option (Bool) := if (l0.length : Int) > 1048576 then (some true) else (some (decide ((l1.length : Int) > 1048576)))
set_option maxHeartbeats 8000000 in
set_option maxRecDepth 100000 in
theorem cX_.calls (A0 : Option Addr) (c0 : Nat) (l0 : List Int) (A1 : Option Addr) (c1 : Nat) (l1 : List Int) (r : Bool) (w : World) (hr0 : Kd.C (Kd.int .u8) w A0 l0.length l0) (hc0 : l0.length ≤ c0) (hr1 : Kd.C (Kd.int .u8) w A1 l1.length l1) (hc1 : l1.length ≤ c1) (h : cX_.f l0 l1 = some r) :
  Calls Try.prog 26 #[.slice A0 l0.length c0, .slice A1 l1.length c1] w fun e w' => e = .returned (.bool r) ∧ aq_ w w' := by
 have HR0 := Aside0.mk hr0
 have HC0 := Aside0.mk hc0
 clear hr0 hc0
 have HR1 := Aside0.mk hr1
 have HC1 := Aside0.mk hc1
 clear hr1 hc1
 have H : (if (l0.length : Int) > 1048576 then (some true) else (some (decide ((l1.length : Int) > 1048576)))) = some r := h
 clear h
 by_cases c3 : (l0.length : Int) > 1048576
 rotate_left
 ·rw [if_neg c3] at H
  have c3b0 : decide (1048576 < (l0.length : Int)) = false := decide_eq_false c3
  have c3b1 : decide (1048576 < l0.length) = false := decide_eq_false (by omega)
  clear c3
  obtain rfl := Option.some.inj H
  go_enter Try.func26, Try.ntmps26
  go_wp2
  go_ret
  exact ⟨by first | rfl | (simp; done) | (simp [*]; done), by repeat (first | exact aq_.refl _ | apply aq_.step)⟩
 rw [if_pos c3] at H
 have c3b0 : decide (1048576 < (l0.length : Int)) = true := decide_eq_true c3
 have c3b1 : decide (1048576 < l0.length) = true := decide_eq_true (by omega)
 clear c3
 obtain rfl := Option.some.inj H
 go_enter Try.func26, Try.ntmps26
 go_wp2
 go_ret
 exact ⟨by first | rfl | (simp; done) | (simp [*]; done), by repeat (first | exact aq_.refl _ | apply aq_.step)⟩
def aa_ (w0 W : World) (g : Nat) (f0 : List Int) (f1 : Int) (f2 : Int) : Prop := ∃ A0 c0, W.heap[g]? = some (.cells #[.slice A0 f0.length c0, .int .i64 f1, .int .u64 f2] 107 (0, 0)) ∧ w0.heap.size ≤ g ∧ Kd.C (Kd.int .u8) w0 A0 f0.length f0
theorem aa_.grown {w0 W : World} {g : Nat} {f0 : List Int} {f1 : Int} {f2 : Int} {W1 : World} {row : Option Nat} (h : aa_ w0 W g f0 f1 f2) (hw : W.grownBy W1 row) (hne : some g ≠ row) : aa_ w0 W1 g f0 f1 f2 := by
 obtain ⟨A0, c0, hb, hg, hr0⟩ := h
 exact ⟨A0, c0, bS_ hb hw hne, hg, hr0⟩
theorem aa_.own_neN {w0 W : World} {g : Nat} {f0 : List Int} {f1 : Int} {f2 : Int} {α : Type} {d : Kd α} {e : Nat} {base : Nat} {ok : Nat → Prop} {v : Value} {xs : List α} (h : aa_ w0 W g f0 f1 f2) (ho : Kd.N d e W base ok v xs) (ht : e ≠ 107) : some g ≠ v.ownBlock := by
 obtain ⟨A0, c0, hb, hg, hr0⟩ := h
 exact Kd.N_ne ho hb ht
theorem aa_.fresh {w0 W : World} {g : Nat} {f0 : List Int} {f1 : Int} {f2 : Int} (h : aa_ w0 W g f0 f1 f2) : ∀ k, W.heap.size ≤ k → k ≠ g := by
 obtain ⟨A0, c0, hb, hg, hr0⟩ := h
 exact Kd.cV_ hb
theorem aa_.kept {w0 W : World} {g : Nat} {f0 : List Int} {f1 : Int} {f2 : Int} {W1 : World} {S : Nat → Prop} (h : aa_ w0 W g f0 f1 f2) (hk : Kept W W1 S) (hne : ¬ S g) : aa_ w0 W1 g f0 f1 f2 := by
 obtain ⟨A0, c0, hb, hg, hr0⟩ := h
 exact ⟨A0, c0, blk_kept hb hk hne, hg, hr0⟩
theorem aa_.below {w0 W : World} {g : Nat} {f0 : List Int} {f1 : Int} {f2 : Int} {W1 : World} (h : aa_ w0 W g f0 f1 f2) (hw : Below W.heap.size W W1) : aa_ w0 W1 g f0 f1 f2 := h.grown (grown_of_below hw none) (by simp)
theorem aa_.alloc {w0 W : World} {g : Nat} {f0 : List Int} {f1 : Int} {f2 : Int} (h : aa_ w0 W g f0 f1 f2) (o : Obj) : aa_ w0 (W.alloc o) g f0 f1 f2 := h.below (bA_ (Below.refl _ _) o)
theorem aa_.drewN {w0 W : World} {g : Nat} {f0 : List Int} {f1 : Int} {f2 : Int} (h : aa_ w0 W g f0 f1 f2) (m : Nat) : aa_ w0 (W.drewN m) g f0 f1 f2 := h
theorem aa_.drew {w0 W : World} {g : Nat} {f0 : List Int} {f1 : Int} {f2 : Int} (h : aa_ w0 W g f0 f1 f2) : aa_ w0 W.drew g f0 f1 f2 := h
theorem aa_.at_ {w0 W : World} {g : Nat} {f0 : List Int} {f1 : Int} {f2 : Int} {w' : World} {m : Nat} (hq : W.drewN m = w') (h : aa_ w0 W g f0 f1 f2) : aa_ w0 w' g f0 f1 f2 := by subst hq; exact aa_.drewN h m
theorem aa_.apart {w0 W : World} {g : Nat} {f0 : List Int} {f1 : Int} {f2 : Int} {α : Type} {d : Kd α} {e : Nat} {base : Nat} {ok : Nat → Prop} {v : Value} {xs : List α} (h : aa_ w0 W g f0 f1 f2) (ho : d.R e W base ok v xs) (ht : ∀ q, q ∈ e :: d.E → q ≠ 107) : d.R e W base (fun k => ok k ∧ k ≠ g) v xs := by
 obtain ⟨A0, c0, hb, hg, hr0⟩ := h
 exact Kd.bs_ ho hb ht
theorem aa_.own_ne {w0 W : World} {g : Nat} {f0 : List Int} {f1 : Int} {f2 : Int} {α : Type} {d : Kd α} {e : Nat} {base : Nat} {ok : Nat → Prop} {v : Value} {xs : List α} (h : aa_ w0 W g f0 f1 f2) (ho : d.R e W base ok v xs) (ht : e ≠ 107) : some g ≠ v.ownBlock := by
 obtain ⟨A0, c0, hb, hg, hr0⟩ := h
 exact Kd.R_ne ho hb ht
theorem aa_.apartS {w0 W : World} {g : Nat} {f0 : List Int} {f1 : Int} {f2 : Int} {α : Type} {d : Kd α} {e : Nat} {base : Nat} {ok : Nat → Prop} {v : Value} {xs : List α} (h : aa_ w0 W g f0 f1 f2) (ho : d.S e W base ok v xs) (ht : ∀ q, q ∈ e :: d.E → q ≠ 107) : d.S e W base (fun k => ok k ∧ k ≠ g) v xs := by
 obtain ⟨A0, c0, hb, hg, hr0⟩ := h
 exact Kd.S_types ho hb ht
theorem aa_.own_neS {w0 W : World} {g : Nat} {f0 : List Int} {f1 : Int} {f2 : Int} {α : Type} {d : Kd α} {e : Nat} {base : Nat} {ok : Nat → Prop} {v : Value} {xs : List α} (h : aa_ w0 W g f0 f1 f2) (ho : d.S e W base ok v xs) (ht : e ≠ 107) : some g ≠ v.ownBlock := by
 obtain ⟨A0, c0, hb, hg, hr0⟩ := h
 exact Kd.S_ne ho hb ht
theorem aa_.lt {w0 W : World} {g : Nat} {f0 : List Int} {f1 : Int} {f2 : Int} (h : aa_ w0 W g f0 f1 f2) : g < W.heap.size := by
 obtain ⟨A0, c0, hb, hg, hr0⟩ := h
 exact ck_ hb
theorem aa_.ge {w0 W : World} {g : Nat} {f0 : List Int} {f1 : Int} {f2 : Int} (h : aa_ w0 W g f0 f1 f2) : w0.heap.size ≤ g := by
 obtain ⟨A0, c0, hb, hg, hr0⟩ := h
 exact hg
theorem aa_.far {w0 W : World} {g : Nat} {f0 : List Int} {f1 : Int} {f2 : Int} {p : Addr} (h : aa_ w0 W g f0 f1 f2) (hne : g ≠ p.block) (u : Value) : aa_ w0 (W.setCell p u) g f0 f1 f2 := by
 obtain ⟨A0, c0, hb, hg, hr0⟩ := h
 exact ⟨A0, c0, blk_far hb hne u, hg, hr0⟩
theorem cellS107_0 {W : World} {g : Nat} {A0 : Option Addr} {c0 : Nat} {f0 : List Int} {f1 : Int} {f2 : Int} (h : W.heap[g]? = some (.cells #[.slice A0 f0.length c0, .int .i64 f1, .int .u64 f2] 107 (0, 0))) : W.cell? ⟨g, 0, none⟩ = some (.slice A0 f0.length c0) := (aY_ h 0).trans rfl
theorem cellS107_1 {W : World} {g : Nat} {A0 : Option Addr} {c0 : Nat} {f0 : List Int} {f1 : Int} {f2 : Int} (h : W.heap[g]? = some (.cells #[.slice A0 f0.length c0, .int .i64 f1, .int .u64 f2] 107 (0, 0))) : W.cell? ⟨g, 1, none⟩ = some (.int .i64 f1) := (aY_ h 1).trans rfl
theorem aa_.set_1 {w0 W : World} {g : Nat} {f0 : List Int} {f1 : Int} {f2 : Int} (h : aa_ w0 W g f0 f1 f2) (x : Int) : aa_ w0 (W.setCell ⟨g, 1, none⟩ (.int .i64 x)) g f0 x f2 := by
 obtain ⟨A0, c0, hb, hg, hr0⟩ := h
 exact ⟨A0, c0, by simpa using blk_set hb 1 (.int .i64 x), hg, hr0⟩
theorem cellS107_2 {W : World} {g : Nat} {A0 : Option Addr} {c0 : Nat} {f0 : List Int} {f1 : Int} {f2 : Int} (h : W.heap[g]? = some (.cells #[.slice A0 f0.length c0, .int .i64 f1, .int .u64 f2] 107 (0, 0))) : W.cell? ⟨g, 2, none⟩ = some (.int .u64 f2) := (aY_ h 2).trans rfl
theorem aa_.set_2 {w0 W : World} {g : Nat} {f0 : List Int} {f1 : Int} {f2 : Int} (h : aa_ w0 W g f0 f1 f2) (x : Int) : aa_ w0 (W.setCell ⟨g, 2, none⟩ (.int .u64 x)) g f0 f1 x := by
 obtain ⟨A0, c0, hb, hg, hr0⟩ := h
 exact ⟨A0, c0, by simpa using blk_set hb 2 (.int .u64 x), hg, hr0⟩
def cA_.f (l0 : List Int) : Option (List Int × Int × Int) := some (l0, 0, 0)
set_option maxHeartbeats 8000000 in
set_option maxRecDepth 100000 in
theorem cA_.calls (A0 : Option Addr) (c0 : Nat) (l0 : List Int) (r1 : List Int) (r2 : Int) (r3 : Int) (w0 w : World) (hB : Below w0.heap.size w0 w) (hr0 : Kd.C (Kd.int .u8) w0 A0 l0.length l0) (hc0 : l0.length ≤ c0) (h : cA_.f l0 = some (r1, r2, r3)) :
  Calls Try.prog 59 #[.slice A0 l0.length c0] w fun e w' => ∃ g_ : Nat, e = .returned (.pointer (some ⟨g_, 0, none⟩)) ∧ aa_ w0 w' g_ r1 r2 r3 ∧ Below w0.heap.size w0 w' ∧ Below w.heap.size w w' := by
 have hu107 := Try.underlying107
 have HR0 := Aside0.mk hr0
 have HC0 := Aside0.mk hc0
 clear hr0 hc0
 have HBW := Aside0.mk (Below.refl w.heap.size w)
 have HW0 := Aside0.mk hB.size
 have HB := Aside0.mk hB
 clear hB
 have H : (some (l0, 0, 0)) = some (r1, r2, r3) := h
 clear h
 simp only [Option.some.injEq, Prod.mk.injEq] at H
 obtain ⟨rfl, rfl, rfl⟩ := H
 go_enter Try.func59, Try.ntmps59
 go_wp2_with (first | ((with_reducible refine aH_ (N := 5) rfl ?_); refine by_ ?hg (N := 5) ?hd (cs := #[.slice A0 l0.length c0, .int .i64 0, .int .u64 0]) (t := 107) ?hr ?_; (case hd => rfl); (case hg => rfl); (case hr => (go_simp; try rfl)); intro gb101 hg w2 hbox hb; replace HB := Aside0.mk (ac_ (bz HB.out) hb); have BK101 := Aside0.mk (hbox); have GW101 := Aside0.mk ((by rw [hg]; exact (ae_ (by repeat (first | (with_reducible first | exact HBW.out | apply bA_ | apply bN_ | apply bD_) | exact HBW.out))) : w.heap.size ≤ gb101)); have GE101 := Aside0.mk ((Nat.le_trans HW0.out (by rw [hg]; exact (ae_ (by repeat (first | (with_reducible first | exact HBW.out | apply bA_ | apply bN_ | apply bD_) | exact HBW.out))) : w.heap.size ≤ gb101) : w0.heap.size ≤ gb101)); replace HBW := Aside0.mk (ac_ HBW.out hb); clear hb hbox hg))
 go_ret
 exact ⟨_, rfl, (show aa_ w0 _ gb101 l0 0 0 from ⟨_, _, by (with_reducible repeat (first | refine dr_ ?_ _ | refine cP_ ?_ | refine dq_ ?_ _)); exact BK101.out, GE101.out, HR0.out⟩), bq, by repeat (first | (with_reducible first | exact HBW.out | apply bA_ | apply bN_ | apply bD_ | refine ag_ ?_ GW101.out) | exact HBW.out)⟩
def ca_.f (s0_0 : List Int) (s0_1 : Int) (s0_2 : Int) : Option (Int × Int × Int) := if s0_1 < (s0_0.length : Int) then (if 0 ≤ s0_1 then (if (wrap64 (s0_1 + 1)) ≤ (s0_0.length : Int) then (some (wrap64 (rd s0_0 s0_1), wrap64 (s0_1 + 1), IntKind.u64.wrap ((IntKind.u64.wrap ((IntKind.u64.wrap (s0_2 * 6364136223846793005)) + (IntKind.u64.wrap (wrap64 (rd s0_0 s0_1))))) + 1442695040888963407))) else (some (wrap64 (Go.bits .and .u64 ((IntKind.u64.wrap ((IntKind.u64.wrap ((IntKind.u64.wrap (s0_2 * 6364136223846793005)) + (IntKind.u64.wrap (wrap64 (rd s0_0 s0_1))))) + 1442695040888963407)) / 1099511627776) 255), wrap64 (s0_1 + 1), IntKind.u64.wrap ((IntKind.u64.wrap ((IntKind.u64.wrap (s0_2 * 6364136223846793005)) + (IntKind.u64.wrap (wrap64 (rd s0_0 s0_1))))) + 1442695040888963407)))) else (none)) else (if (wrap64 (s0_1 + 1)) ≤ (s0_0.length : Int) then (some (0, wrap64 (s0_1 + 1), IntKind.u64.wrap ((IntKind.u64.wrap ((IntKind.u64.wrap (s0_2 * 6364136223846793005)))) + 1442695040888963407))) else (some (wrap64 (Go.bits .and .u64 ((IntKind.u64.wrap ((IntKind.u64.wrap ((IntKind.u64.wrap (s0_2 * 6364136223846793005)))) + 1442695040888963407)) / 1099511627776) 255), wrap64 (s0_1 + 1), IntKind.u64.wrap ((IntKind.u64.wrap ((IntKind.u64.wrap (s0_2 * 6364136223846793005)))) + 1442695040888963407))))
set_option maxHeartbeats 8000000 in
set_option maxRecDepth 100000 in
theorem ca_.calls (g : Nat) (s0_0 : List Int) (s0_1 : Int) (s0_2 : Int) (r1 : Int) (r2 : Int) (r3 : Int) (w0 w : World) (hI : aa_ w0 w g s0_0 s0_1 s0_2) (hB : Below w0.heap.size w0 w) (h : ca_.f s0_0 s0_1 s0_2 = some (r1, r2, r3)) :
  Calls Try.prog 105 #[.pointer (some ⟨g, 0, none⟩)] w fun e w' => e = .returned (.int .i64 r1) ∧ aa_ w0 w' g s0_0 r2 r3 ∧ Below w0.heap.size w0 w' ∧ ab_ w w' g none := by
 have HI0 := Aside0.mk hI
 have HK := Aside0.mk (ab_.refl w g none)
 have HL := Aside0.mk hB.size
 clear hI
 have HW0 := Aside0.mk hB.size
 have HB := Aside0.mk hB
 clear hB
 have H : (if s0_1 < (s0_0.length : Int) then (if 0 ≤ s0_1 then (if (wrap64 (s0_1 + 1)) ≤ (s0_0.length : Int) then (some (wrap64 (rd s0_0 s0_1), wrap64 (s0_1 + 1), IntKind.u64.wrap ((IntKind.u64.wrap ((IntKind.u64.wrap (s0_2 * 6364136223846793005)) + (IntKind.u64.wrap (wrap64 (rd s0_0 s0_1))))) + 1442695040888963407))) else (some (wrap64 (Go.bits .and .u64 ((IntKind.u64.wrap ((IntKind.u64.wrap ((IntKind.u64.wrap (s0_2 * 6364136223846793005)) + (IntKind.u64.wrap (wrap64 (rd s0_0 s0_1))))) + 1442695040888963407)) / 1099511627776) 255), wrap64 (s0_1 + 1), IntKind.u64.wrap ((IntKind.u64.wrap ((IntKind.u64.wrap (s0_2 * 6364136223846793005)) + (IntKind.u64.wrap (wrap64 (rd s0_0 s0_1))))) + 1442695040888963407)))) else (none)) else (if (wrap64 (s0_1 + 1)) ≤ (s0_0.length : Int) then (some (0, wrap64 (s0_1 + 1), IntKind.u64.wrap ((IntKind.u64.wrap ((IntKind.u64.wrap (s0_2 * 6364136223846793005)))) + 1442695040888963407))) else (some (wrap64 (Go.bits .and .u64 ((IntKind.u64.wrap ((IntKind.u64.wrap ((IntKind.u64.wrap (s0_2 * 6364136223846793005)))) + 1442695040888963407)) / 1099511627776) 255), wrap64 (s0_1 + 1), IntKind.u64.wrap ((IntKind.u64.wrap ((IntKind.u64.wrap (s0_2 * 6364136223846793005)))) + 1442695040888963407))))) = some (r1, r2, r3) := h
 clear h
 by_cases c2 : s0_1 < (s0_0.length : Int)
 rotate_left
 ·rw [if_neg c2] at H
  have c2b0 : decide (s0_1 < (s0_0.length : Int)) = false := decide_eq_false c2
  clear c2
  have HC8 := Aside0.mk H
  clear H
  obtain ⟨ASz9_0, cSz9_0, HGz9, hgz9, HSz9_0⟩ := HI0.out
  have hcz9_0 := cellS107_0 HGz9
  have hcz9_1 := cellS107_1 HGz9
  have hcz9_2 := cellS107_2 HGz9
  have hfz9_1 := cb_ HGz9 1
  have hfz9_2 := cb_ HGz9 2
  clear HGz9 hgz9
  go_enter Try.func105, Try.ntmps105
  go_upto_if 53 with (fail)
  repeat (go_quiet (fail); go_upto_if 53 with (fail))
  have H := HC8.out
  clear HC8
  by_cases c10 : (wrap64 (s0_1 + 1)) ≤ (s0_0.length : Int)
  rotate_left
  ·rw [if_neg c10] at H
   have c10b0 : decide ((wrap64 (s0_1 + 1)) ≤ (s0_0.length : Int)) = false := decide_eq_false c10
   clear c10
   (first | rw [c10b0] | (simp only [i64_w, i32_w]; rw [c10b0]) | (simp only [c10b1, Bool.not_true, Bool.not_false]) | (simp only [c10b0, Bool.not_true, Bool.not_false]) | skip)
   simp only [Option.some.injEq, Prod.mk.injEq] at H
   obtain ⟨rfl, rfl, rfl⟩ := H
   obtain ⟨ASz11_0, cSz11_0, HGz11, hgz11, HSz11_0⟩ := HI0.out
   have hcz11_0 := cellS107_0 HGz11
   have hcz11_1 := cellS107_1 HGz11
   have hcz11_2 := cellS107_2 HGz11
   have hfz11_1 := cb_ HGz11 1
   have hfz11_2 := cb_ HGz11 2
   clear HGz11 hgz11
   go_wp2
   repeat (go_quiet (fail); try go_wp2)
   go_ret
   exact ⟨by first | rfl | (simp [*, ao_, an_] <;> rfl), by repeat (first | (with_reducible first | exact HI0.out | apply aa_.alloc | apply aa_.drewN | apply aa_.drew | apply aa_.set_1 | apply aa_.set_2) | exact HI0.out), by repeat (first | (with_reducible first | exact HB.out | apply bA_ | apply bN_ | apply bD_ | refine ag_ ?_ (aa_.ge HI0.out)) | exact HB.out), by repeat (first | (with_reducible first | exact HK.out | apply ab_.set_ | apply aj_ | apply ak_ | apply ai_) | exact HK.out)⟩
  rw [if_pos c10] at H
  have c10b0 : decide ((wrap64 (s0_1 + 1)) ≤ (s0_0.length : Int)) = true := decide_eq_true c10
  clear c10
  (first | rw [c10b0] | (simp only [i64_w, i32_w]; rw [c10b0]) | (simp only [c10b1, Bool.not_true, Bool.not_false]) | (simp only [c10b0, Bool.not_true, Bool.not_false]) | skip)
  simp only [Option.some.injEq, Prod.mk.injEq] at H
  obtain ⟨rfl, rfl, rfl⟩ := H
  go_wp2
  repeat (go_quiet (fail); try go_wp2)
  go_ret
  exact ⟨by first | rfl | (simp [*, ao_, an_] <;> rfl), by repeat (first | (with_reducible first | exact HI0.out | apply aa_.alloc | apply aa_.drewN | apply aa_.drew | apply aa_.set_1 | apply aa_.set_2) | exact HI0.out), by repeat (first | (with_reducible first | exact HB.out | apply bA_ | apply bN_ | apply bD_ | refine ag_ ?_ (aa_.ge HI0.out)) | exact HB.out), by repeat (first | (with_reducible first | exact HK.out | apply ab_.set_ | apply aj_ | apply ak_ | apply ai_) | exact HK.out)⟩
 rw [if_pos c2] at H
 have c2b0 : decide (s0_1 < (s0_0.length : Int)) = true := decide_eq_true c2
 clear c2
 by_cases c3 : 0 ≤ s0_1
 rotate_left
 ·rw [if_neg c3] at H
  exact absurd H (by simp)
 rw [if_pos c3] at H
 have c3b0 : decide (0 ≤ s0_1) = true := decide_eq_true c3
 clear c3
 have HC4 := Aside0.mk H
 clear H
 obtain ⟨ASz5_0, cSz5_0, HGz5, hgz5, HSz5_0⟩ := HI0.out
 have hcz5_0 := cellS107_0 HGz5
 have hcz5_1 := cellS107_1 HGz5
 have hcz5_2 := cellS107_2 HGz5
 have hfz5_1 := cb_ HGz5 1
 have hfz5_2 := cb_ HGz5 2
 clear HGz5 hgz5
 have p101 : 0 ≤ (s0_1 : Int) := of_decide_eq_true (by assumption)
 have q101 : s0_1 < (s0_0.length : Int) := of_decide_eq_true (by assumption)
 obtain ⟨ad101, e101, hx101_0⟩ := Kd.at_int HSz5_0 s0_1 p101 q101
 cases e101
 replace hx101_0 := dt_ HB.out hx101_0
 replace p101 := eq_true p101
 replace q101 := eq_true q101
 go_enter Try.func105, Try.ntmps105
 go_upto_if 53 with (fail)
 repeat (go_quiet (fail); go_upto_if 53 with (fail))
 have H := HC4.out
 clear HC4
 by_cases c6 : (wrap64 (s0_1 + 1)) ≤ (s0_0.length : Int)
 rotate_left
 ·rw [if_neg c6] at H
  have c6b0 : decide ((wrap64 (s0_1 + 1)) ≤ (s0_0.length : Int)) = false := decide_eq_false c6
  clear c6
  (first | rw [c6b0] | (simp only [i64_w, i32_w]; rw [c6b0]) | (simp only [c6b1, Bool.not_true, Bool.not_false]) | (simp only [c6b0, Bool.not_true, Bool.not_false]) | skip)
  simp only [Option.some.injEq, Prod.mk.injEq] at H
  obtain ⟨rfl, rfl, rfl⟩ := H
  obtain ⟨ASz7_0, cSz7_0, HGz7, hgz7, HSz7_0⟩ := HI0.out
  have hcz7_0 := cellS107_0 HGz7
  have hcz7_1 := cellS107_1 HGz7
  have hcz7_2 := cellS107_2 HGz7
  have hfz7_1 := cb_ HGz7 1
  have hfz7_2 := cb_ HGz7 2
  clear HGz7 hgz7
  go_wp2
  repeat (go_quiet (fail); try go_wp2)
  go_ret
  exact ⟨by first | rfl | (simp [*, ao_, an_] <;> rfl), by repeat (first | (with_reducible first | exact HI0.out | apply aa_.alloc | apply aa_.drewN | apply aa_.drew | apply aa_.set_1 | apply aa_.set_2) | exact HI0.out), by repeat (first | (with_reducible first | exact HB.out | apply bA_ | apply bN_ | apply bD_ | refine ag_ ?_ (aa_.ge HI0.out)) | exact HB.out), by repeat (first | (with_reducible first | exact HK.out | apply ab_.set_ | apply aj_ | apply ak_ | apply ai_) | exact HK.out)⟩
 rw [if_pos c6] at H
 have c6b0 : decide ((wrap64 (s0_1 + 1)) ≤ (s0_0.length : Int)) = true := decide_eq_true c6
 clear c6
 (first | rw [c6b0] | (simp only [i64_w, i32_w]; rw [c6b0]) | (simp only [c6b1, Bool.not_true, Bool.not_false]) | (simp only [c6b0, Bool.not_true, Bool.not_false]) | skip)
 simp only [Option.some.injEq, Prod.mk.injEq] at H
 obtain ⟨rfl, rfl, rfl⟩ := H
 go_wp2
 repeat (go_quiet (fail); try go_wp2)
 go_ret
 exact ⟨by first | rfl | (simp [*, ao_, an_] <;> rfl), by repeat (first | (with_reducible first | exact HI0.out | apply aa_.alloc | apply aa_.drewN | apply aa_.drew | apply aa_.set_1 | apply aa_.set_2) | exact HI0.out), by repeat (first | (with_reducible first | exact HB.out | apply bA_ | apply bN_ | apply bD_ | refine ag_ ?_ (aa_.ge HI0.out)) | exact HB.out), by repeat (first | (with_reducible first | exact HK.out | apply ab_.set_ | apply aj_ | apply ak_ | apply ai_) | exact HK.out)⟩
def az_.f (s0_0 : List Int) (s0_1 : Int) (s0_2 : Int) (a1 : Int) : Option (Int × Int × Int) := if a1 ≤ 1 then (some (0, s0_1, s0_2)) else ((ca_.f s0_0 s0_1 s0_2).bind fun bt101 => (if a1 > 200 then ((ca_.f s0_0 bt101.2.1 bt101.2.2).bind fun bt104 => (if a1 = 0 then (none) else (some (Int.tmod (wrap64 ((wrap64 (bt101.1 * 256)) + bt104.1)) a1, bt104.2.1, bt104.2.2)))) else (if a1 = 0 then (none) else (some (Int.tmod bt101.1 a1, bt101.2.1, bt101.2.2)))))
set_option maxHeartbeats 8000000 in
set_option maxRecDepth 100000 in
theorem az_.calls (g : Nat) (s0_0 : List Int) (s0_1 : Int) (s0_2 : Int) (a1 : Int) (r1 : Int) (r2 : Int) (r3 : Int) (w0 w : World) (hI : aa_ w0 w g s0_0 s0_1 s0_2) (hB : Below w0.heap.size w0 w) (h : az_.f s0_0 s0_1 s0_2 a1 = some (r1, r2, r3)) :
  Calls Try.prog 86 #[.pointer (some ⟨g, 0, none⟩), .int .i64 a1] w fun e w' => e = .returned (.int .i64 r1) ∧ aa_ w0 w' g s0_0 r2 r3 ∧ Below w0.heap.size w0 w' ∧ ab_ w w' g none := by
 have HI0 := Aside0.mk hI
 have HK := Aside0.mk (ab_.refl w g none)
 have HL := Aside0.mk hB.size
 clear hI
 have HW0 := Aside0.mk hB.size
 have HB := Aside0.mk hB
 clear hB
 have H : (if a1 ≤ 1 then (some (0, s0_1, s0_2)) else ((ca_.f s0_0 s0_1 s0_2).bind fun bt101 => (if a1 > 200 then ((ca_.f s0_0 bt101.2.1 bt101.2.2).bind fun bt104 => (if a1 = 0 then (none) else (some (Int.tmod (wrap64 ((wrap64 (bt101.1 * 256)) + bt104.1)) a1, bt104.2.1, bt104.2.2)))) else (if a1 = 0 then (none) else (some (Int.tmod bt101.1 a1, bt101.2.1, bt101.2.2)))))) = some (r1, r2, r3) := h
 clear h
 by_cases c3 : a1 ≤ 1
 rotate_left
 ·rw [if_neg c3] at H
  have c3b0 : decide (a1 ≤ 1) = false := decide_eq_false c3
  clear c3
  replace H := Option.bind_eq_some_iff.mp H
  obtain ⟨⟨t101, t102, t103⟩, A40, H⟩ := H
  (try dsimp only at H)
  have A4 := Aside0.mk A40
  clear A40
  have HC5 := Aside0.mk H
  clear H
  go_enter Try.func86, Try.ntmps86
  go_upto_if 11 with (first | ((with_reducible refine ah_ (f := 105) rfl ?_); refine aN_ (some 9) rfl rfl Try.func105 (by kernel_rfl) rfl #[.pointer (some ⟨g, 0, none⟩)] rfl (by first | rfl | (simp only [lma_, lmc_, lmn_]; first | done | rfl)) ?_; (with_reducible refine (ca_.calls g s0_0 s0_1 s0_2 t101 t102 t103 w0 _ ?side1 ?side2 A4.out).mono ?_); (case side1 => repeat (first | (with_reducible first | exact HI0.out | apply aa_.alloc | apply aa_.drewN | apply aa_.drew | apply aa_.set_1 | apply aa_.set_2) | exact HI0.out)); (case side2 => repeat (first | (with_reducible first | exact HB.out | apply bA_ | apply bN_ | apply bD_ | refine ag_ ?_ (aa_.ge HI0.out)) | exact HB.out)); rintro e w6 ⟨rfl, hi, hb, hk⟩; refine ⟨_, rfl, ?_⟩; replace HK := Aside0.mk (ab_.trans (by repeat (first | (with_reducible first | exact HK.out | apply ab_.set_ | apply aj_ | apply ak_ | apply ai_) | exact HK.out)) hk (.inl rfl)); replace HB := Aside0.mk (hb); replace HI0 := Aside0.mk (hi); (try clear hb)))
  (try simp only [Act.put, lsa_, ls0_, ls1_])
  have H := HC5.out
  clear HC5
  by_cases c7 : a1 > 200
  rotate_left
  ·rw [if_neg c7] at H
   have c7b0 : decide (200 < a1) = false := decide_eq_false c7
   clear c7
   (first | rw [c7b0] | (simp only [i64_w, i32_w]; rw [c7b0]) | (simp only [c7b1, Bool.not_true, Bool.not_false]) | (simp only [c7b0, Bool.not_true, Bool.not_false]) | skip)
   by_cases c11 : a1 = 0
   rotate_left
   ·rw [if_neg c11] at H
    have c11b0 : (a1 == 0) = false := beq_eq_false_iff_ne.mpr c11
    have c11b1 : (a1 != 0) = true := bne_iff_ne.mpr c11
    simp only [Option.some.injEq, Prod.mk.injEq] at H
    obtain ⟨rfl, rfl, rfl⟩ := H
    go_wp2
    go_ret
    exact ⟨by first | rfl | (simp [*, ao_, an_] <;> rfl), by repeat (first | (with_reducible first | exact HI0.out | apply aa_.alloc | apply aa_.drewN | apply aa_.drew | apply aa_.set_1 | apply aa_.set_2) | exact HI0.out), by repeat (first | (with_reducible first | exact HB.out | apply bA_ | apply bN_ | apply bD_ | refine ag_ ?_ (aa_.ge HI0.out)) | exact HB.out), by repeat (first | (with_reducible first | exact HK.out | apply ab_.set_ | apply aj_ | apply ak_ | apply ai_) | exact HK.out)⟩
   rw [if_pos c11] at H
   exact absurd H (by simp)
  rw [if_pos c7] at H
  have c7b0 : decide (200 < a1) = true := decide_eq_true c7
  clear c7
  (first | rw [c7b0] | (simp only [i64_w, i32_w]; rw [c7b0]) | (simp only [c7b1, Bool.not_true, Bool.not_false]) | (simp only [c7b0, Bool.not_true, Bool.not_false]) | skip)
  replace H := Option.bind_eq_some_iff.mp H
  obtain ⟨⟨t104, t105, t106⟩, A80, H⟩ := H
  (try dsimp only at H)
  have A8 := Aside0.mk A80
  clear A80
  by_cases c9 : a1 = 0
  rotate_left
  ·rw [if_neg c9] at H
   have c9b0 : (a1 == 0) = false := beq_eq_false_iff_ne.mpr c9
   have c9b1 : (a1 != 0) = true := bne_iff_ne.mpr c9
   simp only [Option.some.injEq, Prod.mk.injEq] at H
   obtain ⟨rfl, rfl, rfl⟩ := H
   go_wp2_with (first | ((with_reducible refine ah_ (f := 105) rfl ?_); refine aN_ (some 15) rfl rfl Try.func105 (by kernel_rfl) rfl #[.pointer (some ⟨g, 0, none⟩)] rfl (by first | rfl | (simp only [lma_, lmc_, lmn_]; first | done | rfl)) ?_; (with_reducible refine (ca_.calls g s0_0 t102 t103 t104 t105 t106 w0 _ ?side1 ?side2 A8.out).mono ?_); (case side1 => repeat (first | (with_reducible first | exact HI0.out | apply aa_.alloc | apply aa_.drewN | apply aa_.drew | apply aa_.set_1 | apply aa_.set_2) | exact HI0.out)); (case side2 => repeat (first | (with_reducible first | exact HB.out | apply bA_ | apply bN_ | apply bD_ | refine ag_ ?_ (aa_.ge HI0.out)) | exact HB.out)); rintro e w10 ⟨rfl, hi, hb, hk⟩; refine ⟨_, rfl, ?_⟩; replace HK := Aside0.mk (ab_.trans (by repeat (first | (with_reducible first | exact HK.out | apply ab_.set_ | apply aj_ | apply ak_ | apply ai_) | exact HK.out)) hk (.inl rfl)); replace HB := Aside0.mk (hb); replace HI0 := Aside0.mk (hi); (try clear hb)))
   go_ret
   exact ⟨by first | rfl | (simp [*, ao_, an_] <;> rfl), by repeat (first | (with_reducible first | exact HI0.out | apply aa_.alloc | apply aa_.drewN | apply aa_.drew | apply aa_.set_1 | apply aa_.set_2) | exact HI0.out), by repeat (first | (with_reducible first | exact HB.out | apply bA_ | apply bN_ | apply bD_ | refine ag_ ?_ (aa_.ge HI0.out)) | exact HB.out), by repeat (first | (with_reducible first | exact HK.out | apply ab_.set_ | apply aj_ | apply ak_ | apply ai_) | exact HK.out)⟩
  rw [if_pos c9] at H
  exact absurd H (by simp)
 rw [if_pos c3] at H
 have c3b0 : decide (a1 ≤ 1) = true := decide_eq_true c3
 clear c3
 simp only [Option.some.injEq, Prod.mk.injEq] at H
 obtain ⟨rfl, rfl, rfl⟩ := H
 go_enter Try.func86, Try.ntmps86
 go_wp2
 go_ret
 exact ⟨by first | rfl | (simp [*, ao_, an_] <;> rfl), by repeat (first | (with_reducible first | exact HI0.out | apply aa_.alloc | apply aa_.drewN | apply aa_.drew | apply aa_.set_1 | apply aa_.set_2) | exact HI0.out), by repeat (first | (with_reducible first | exact HB.out | apply bA_ | apply bN_ | apply bD_ | refine ag_ ?_ (aa_.ge HI0.out)) | exact HB.out), by repeat (first | (with_reducible first | exact HK.out | apply ab_.set_ | apply aj_ | apply ak_ | apply ai_) | exact HK.out)⟩
def cx_.f (s0_0 : List Int) (s0_1 : Int) (s0_2 : Int) (a1 : Int) : Option (Bool × Int × Int) := (az_.f s0_0 s0_1 s0_2 a1).bind fun bt101 => (some ((bt101.1 == 0), bt101.2.1, bt101.2.2))
set_option maxHeartbeats 8000000 in
set_option maxRecDepth 100000 in
theorem cx_.calls (g : Nat) (s0_0 : List Int) (s0_1 : Int) (s0_2 : Int) (a1 : Int) (r1 : Bool) (r2 : Int) (r3 : Int) (w0 w : World) (hI : aa_ w0 w g s0_0 s0_1 s0_2) (hB : Below w0.heap.size w0 w) (h : cx_.f s0_0 s0_1 s0_2 a1 = some (r1, r2, r3)) :
  Calls Try.prog 84 #[.pointer (some ⟨g, 0, none⟩), .int .i64 a1] w fun e w' => e = .returned (.bool r1) ∧ aa_ w0 w' g s0_0 r2 r3 ∧ Below w0.heap.size w0 w' ∧ ab_ w w' g none := by
 have HI0 := Aside0.mk hI
 have HK := Aside0.mk (ab_.refl w g none)
 have HL := Aside0.mk hB.size
 clear hI
 have HW0 := Aside0.mk hB.size
 have HB := Aside0.mk hB
 clear hB
 have H : ((az_.f s0_0 s0_1 s0_2 a1).bind fun bt101 => (some ((bt101.1 == 0), bt101.2.1, bt101.2.2))) = some (r1, r2, r3) := h
 clear h
 replace H := Option.bind_eq_some_iff.mp H
 obtain ⟨⟨t101, t102, t103⟩, A30, H⟩ := H
 (try dsimp only at H)
 have A3 := Aside0.mk A30
 clear A30
 simp only [Option.some.injEq, Prod.mk.injEq] at H
 obtain ⟨rfl, rfl, rfl⟩ := H
 go_enter Try.func84, Try.ntmps84
 go_wp2_with (first | ((with_reducible refine ah_ (f := 86) rfl ?_); refine aN_ (some 7) rfl rfl Try.func86 (by kernel_rfl) rfl #[.pointer (some ⟨g, 0, none⟩), .int .i64 a1] rfl (by first | rfl | (simp only [lma_, lmc_, lmn_]; first | done | rfl)) ?_; (with_reducible refine (az_.calls g s0_0 s0_1 s0_2 a1 t101 t102 t103 w0 _ ?side1 ?side2 A3.out).mono ?_); (case side1 => repeat (first | (with_reducible first | exact HI0.out | apply aa_.alloc | apply aa_.drewN | apply aa_.drew | apply aa_.set_1 | apply aa_.set_2) | exact HI0.out)); (case side2 => repeat (first | (with_reducible first | exact HB.out | apply bA_ | apply bN_ | apply bD_ | refine ag_ ?_ (aa_.ge HI0.out)) | exact HB.out)); rintro e w4 ⟨rfl, hi, hb, hk⟩; refine ⟨_, rfl, ?_⟩; replace HK := Aside0.mk (ab_.trans (by repeat (first | (with_reducible first | exact HK.out | apply ab_.set_ | apply aj_ | apply ak_ | apply ai_) | exact HK.out)) hk (.inl rfl)); replace HB := Aside0.mk (hb); replace HI0 := Aside0.mk (hi); (try clear hb)))
 go_ret
 exact ⟨by first | rfl | (simp [*, ao_, an_] <;> rfl), by repeat (first | (with_reducible first | exact HI0.out | apply aa_.alloc | apply aa_.drewN | apply aa_.drew | apply aa_.set_1 | apply aa_.set_2) | exact HI0.out), by repeat (first | (with_reducible first | exact HB.out | apply bA_ | apply bN_ | apply bD_ | refine ag_ ?_ (aa_.ge HI0.out)) | exact HB.out), by repeat (first | (with_reducible first | exact HK.out | apply ab_.set_ | apply aj_ | apply ak_ | apply ai_) | exact HK.out)⟩
def cu_.f  : Option ((List (List Int))) := some (([(([20, 40, 310] : List Int)), (([35, 45, 410] : List Int)), (([15, 33, 280] : List Int)), (([50, 36, 240] : List Int)), (([95, 85, 270] : List Int)), (([5, 35, 370] : List Int)), (([10, 42, 290] : List Int)), (([40, 40, 330] : List Int)), (([80, 60, 220] : List Int)), (([70, 38, 260] : List Int))] : List (List Int)))
set_option maxHeartbeats 8000000 in
set_option maxRecDepth 100000 in
theorem cu_.calls  (r : List (List Int)) (w : World) (h : cu_.f  = some r) :
  Calls Try.prog 100 #[] w fun e w' => ∃ v0_ : Value, e = .returned (v0_) ∧ Kd.N (Kd.slice 2 (Kd.int .i64)) 100 w' w.heap.size (fun k_ => (w.heap.size ≤ k_)) v0_ r ∧ Below w.heap.size w w' := by
 have HB := Aside0.mk (Below.refl w.heap.size w)
 have H : (some (([(([20, 40, 310] : List Int)), (([35, 45, 410] : List Int)), (([15, 33, 280] : List Int)), (([50, 36, 240] : List Int)), (([95, 85, 270] : List Int)), (([5, 35, 370] : List Int)), (([10, 42, 290] : List Int)), (([40, 40, 330] : List Int)), (([80, 60, 220] : List Int)), (([70, 38, 260] : List Int))] : List (List Int)))) = some r := h
 clear h
 obtain ⟨y101, hy101⟩ : ∃ y_ : List Int, y_ = (([20, 40, 310] : List Int)) := ⟨_, rfl⟩
 replace H : (some (([y101, (([35, 45, 410] : List Int)), (([15, 33, 280] : List Int)), (([50, 36, 240] : List Int)), (([95, 85, 270] : List Int)), (([5, 35, 370] : List Int)), (([10, 42, 290] : List Int)), (([40, 40, 330] : List Int)), (([80, 60, 220] : List Int)), (([70, 38, 260] : List Int))] : List (List Int)))) = some r := by first | (rw [hy101]; with_reducible exact H) | (have H2_ := (Option.bind_some _ _).symm.trans H; rw [hy101]; with_reducible exact H2_) | (have H2_ := (Option.bind_some _ _).symm.trans H; with_reducible exact H2_) | with_reducible exact H | (rw [hy101]; exact H) | exact H
 have Ny101 := Aside0.mk hy101
 clear hy101
 obtain ⟨y104, hy104⟩ : ∃ y_ : List Int, y_ = (([35, 45, 410] : List Int)) := ⟨_, rfl⟩
 replace H : (some (([y101, y104, (([15, 33, 280] : List Int)), (([50, 36, 240] : List Int)), (([95, 85, 270] : List Int)), (([5, 35, 370] : List Int)), (([10, 42, 290] : List Int)), (([40, 40, 330] : List Int)), (([80, 60, 220] : List Int)), (([70, 38, 260] : List Int))] : List (List Int)))) = some r := by first | (rw [hy104]; with_reducible exact H) | (have H2_ := (Option.bind_some _ _).symm.trans H; rw [hy104]; with_reducible exact H2_) | (have H2_ := (Option.bind_some _ _).symm.trans H; with_reducible exact H2_) | with_reducible exact H | (rw [hy104]; exact H) | exact H
 have Ny104 := Aside0.mk hy104
 clear hy104
 obtain ⟨y107, hy107⟩ : ∃ y_ : List Int, y_ = (([15, 33, 280] : List Int)) := ⟨_, rfl⟩
 replace H : (some (([y101, y104, y107, (([50, 36, 240] : List Int)), (([95, 85, 270] : List Int)), (([5, 35, 370] : List Int)), (([10, 42, 290] : List Int)), (([40, 40, 330] : List Int)), (([80, 60, 220] : List Int)), (([70, 38, 260] : List Int))] : List (List Int)))) = some r := by first | (rw [hy107]; with_reducible exact H) | (have H2_ := (Option.bind_some _ _).symm.trans H; rw [hy107]; with_reducible exact H2_) | (have H2_ := (Option.bind_some _ _).symm.trans H; with_reducible exact H2_) | with_reducible exact H | (rw [hy107]; exact H) | exact H
 have Ny107 := Aside0.mk hy107
 clear hy107
 obtain ⟨y110, hy110⟩ : ∃ y_ : List Int, y_ = (([50, 36, 240] : List Int)) := ⟨_, rfl⟩
 replace H : (some (([y101, y104, y107, y110, (([95, 85, 270] : List Int)), (([5, 35, 370] : List Int)), (([10, 42, 290] : List Int)), (([40, 40, 330] : List Int)), (([80, 60, 220] : List Int)), (([70, 38, 260] : List Int))] : List (List Int)))) = some r := by first | (rw [hy110]; with_reducible exact H) | (have H2_ := (Option.bind_some _ _).symm.trans H; rw [hy110]; with_reducible exact H2_) | (have H2_ := (Option.bind_some _ _).symm.trans H; with_reducible exact H2_) | with_reducible exact H | (rw [hy110]; exact H) | exact H
 have Ny110 := Aside0.mk hy110
 clear hy110
 obtain ⟨y113, hy113⟩ : ∃ y_ : List Int, y_ = (([95, 85, 270] : List Int)) := ⟨_, rfl⟩
 replace H : (some (([y101, y104, y107, y110, y113, (([5, 35, 370] : List Int)), (([10, 42, 290] : List Int)), (([40, 40, 330] : List Int)), (([80, 60, 220] : List Int)), (([70, 38, 260] : List Int))] : List (List Int)))) = some r := by first | (rw [hy113]; with_reducible exact H) | (have H2_ := (Option.bind_some _ _).symm.trans H; rw [hy113]; with_reducible exact H2_) | (have H2_ := (Option.bind_some _ _).symm.trans H; with_reducible exact H2_) | with_reducible exact H | (rw [hy113]; exact H) | exact H
 have Ny113 := Aside0.mk hy113
 clear hy113
 obtain ⟨y116, hy116⟩ : ∃ y_ : List Int, y_ = (([5, 35, 370] : List Int)) := ⟨_, rfl⟩
 replace H : (some (([y101, y104, y107, y110, y113, y116, (([10, 42, 290] : List Int)), (([40, 40, 330] : List Int)), (([80, 60, 220] : List Int)), (([70, 38, 260] : List Int))] : List (List Int)))) = some r := by first | (rw [hy116]; with_reducible exact H) | (have H2_ := (Option.bind_some _ _).symm.trans H; rw [hy116]; with_reducible exact H2_) | (have H2_ := (Option.bind_some _ _).symm.trans H; with_reducible exact H2_) | with_reducible exact H | (rw [hy116]; exact H) | exact H
 have Ny116 := Aside0.mk hy116
 clear hy116
 obtain ⟨y119, hy119⟩ : ∃ y_ : List Int, y_ = (([10, 42, 290] : List Int)) := ⟨_, rfl⟩
 replace H : (some (([y101, y104, y107, y110, y113, y116, y119, (([40, 40, 330] : List Int)), (([80, 60, 220] : List Int)), (([70, 38, 260] : List Int))] : List (List Int)))) = some r := by first | (rw [hy119]; with_reducible exact H) | (have H2_ := (Option.bind_some _ _).symm.trans H; rw [hy119]; with_reducible exact H2_) | (have H2_ := (Option.bind_some _ _).symm.trans H; with_reducible exact H2_) | with_reducible exact H | (rw [hy119]; exact H) | exact H
 have Ny119 := Aside0.mk hy119
 clear hy119
 obtain ⟨y122, hy122⟩ : ∃ y_ : List Int, y_ = (([40, 40, 330] : List Int)) := ⟨_, rfl⟩
 replace H : (some (([y101, y104, y107, y110, y113, y116, y119, y122, (([80, 60, 220] : List Int)), (([70, 38, 260] : List Int))] : List (List Int)))) = some r := by first | (rw [hy122]; with_reducible exact H) | (have H2_ := (Option.bind_some _ _).symm.trans H; rw [hy122]; with_reducible exact H2_) | (have H2_ := (Option.bind_some _ _).symm.trans H; with_reducible exact H2_) | with_reducible exact H | (rw [hy122]; exact H) | exact H
 have Ny122 := Aside0.mk hy122
 clear hy122
 obtain ⟨y125, hy125⟩ : ∃ y_ : List Int, y_ = (([80, 60, 220] : List Int)) := ⟨_, rfl⟩
 replace H : (some (([y101, y104, y107, y110, y113, y116, y119, y122, y125, (([70, 38, 260] : List Int))] : List (List Int)))) = some r := by first | (rw [hy125]; with_reducible exact H) | (have H2_ := (Option.bind_some _ _).symm.trans H; rw [hy125]; with_reducible exact H2_) | (have H2_ := (Option.bind_some _ _).symm.trans H; with_reducible exact H2_) | with_reducible exact H | (rw [hy125]; exact H) | exact H
 have Ny125 := Aside0.mk hy125
 clear hy125
 obtain ⟨y128, hy128⟩ : ∃ y_ : List Int, y_ = (([70, 38, 260] : List Int)) := ⟨_, rfl⟩
 replace H : (some (([y101, y104, y107, y110, y113, y116, y119, y122, y125, y128] : List (List Int)))) = some r := by first | (rw [hy128]; with_reducible exact H) | (have H2_ := (Option.bind_some _ _).symm.trans H; rw [hy128]; with_reducible exact H2_) | (have H2_ := (Option.bind_some _ _).symm.trans H; with_reducible exact H2_) | with_reducible exact H | (rw [hy128]; exact H) | exact H
 have Ny128 := Aside0.mk hy128
 clear hy128
 obtain ⟨y131, hy131⟩ : ∃ y_ : List (List Int), y_ = (([y101, y104, y107, y110, y113, y116, y119, y122, y125, y128] : List (List Int))) := ⟨_, rfl⟩
 replace H : (some y131) = some r := by first | (rw [hy131]; with_reducible exact H) | (have H2_ := (Option.bind_some _ _).symm.trans H; rw [hy131]; with_reducible exact H2_) | (have H2_ := (Option.bind_some _ _).symm.trans H; with_reducible exact H2_) | with_reducible exact H | (rw [hy131]; exact H) | exact H
 have Ny131 := Aside0.mk hy131
 clear hy131
 obtain rfl := Option.some.inj H
 go_enter Try.func100, Try.ntmps100
 go_wp2_with (first | ((with_reducible refine aH_ (N := 1) rfl ?_); refine Kd.R_lit (Kd.int .i64) _ 2 ?hg (N := 1) ?hd (xs := ([20, 40, 310] : List Int)) (inner := [.int .i64 20, .int .i64 40, .int .i64 310]) (ok := fun _ => True) (okp := fun _ => True) ?hr ?hp (fun _ hk => hk) trivial (Below.refl _ _) (Nat.le_refl _) (by simp) ?_; (case hd => rfl); (case hg => rfl); (case hr => (go_simp; try rfl)); (case hp => exact (Reps.one (show Kd.M (Kd.int .i64) _ _ _ 20 [.int .i64 20] from rfl) (Reps.one (show Kd.M (Kd.int .i64) _ _ _ 40 [.int .i64 40] from rfl) (Reps.one (show Kd.M (Kd.int .i64) _ _ _ 310 [.int .i64 310] from rfl) (Reps.none _ _))))); intro v102 w1 ho2 hb hg_ hnew_; clear hg_ hnew_; (first | rw [← Ny101.out] at ho2 | (simp only [Int.reduceToNat] at ho2; rw [← Ny101.out] at ho2)); have HO103 := Aside0.mk (Kd.bt_ (Kd.do_ (M := fun k_ => (w.heap.size ≤ k_)) ho2 (ae_ (bz HB.out)) (fun k_ h_ => h_)) (ae_ (bz HB.out))); replace HB := Aside0.mk (ac_ (bz HB.out) hb); clear hb ho2) | ((with_reducible refine aH_ (N := 2) rfl ?_); refine Kd.R_lit (Kd.int .i64) _ 2 ?hg (N := 2) ?hd (xs := ([35, 45, 410] : List Int)) (inner := [.int .i64 35, .int .i64 45, .int .i64 410]) (ok := fun _ => True) (okp := fun _ => True) ?hr ?hp (fun _ hk => hk) trivial (Below.refl _ _) (Nat.le_refl _) (by simp) ?_; (case hd => rfl); (case hg => rfl); (case hr => (go_simp; try rfl)); (case hp => exact (Reps.one (show Kd.M (Kd.int .i64) _ _ _ 35 [.int .i64 35] from rfl) (Reps.one (show Kd.M (Kd.int .i64) _ _ _ 45 [.int .i64 45] from rfl) (Reps.one (show Kd.M (Kd.int .i64) _ _ _ 410 [.int .i64 410] from rfl) (Reps.none _ _))))); intro v105 w3 ho4 hb hg_ hnew_; clear hg_ hnew_; (first | rw [← Ny104.out] at ho4 | (simp only [Int.reduceToNat] at ho4; rw [← Ny104.out] at ho4)); have HO106 := Aside0.mk (Kd.bt_ (Kd.bB_ (Kd.do_ (M := fun k_ => (w.heap.size ≤ k_)) ho4 (ae_ (bz HB.out)) (fun k_ h_ => h_)) (Kd.R_lt (rz HO103.out))) (ae_ (bz HB.out))); replace HO103 := Aside0.mk (Kd.aK_ (rz HO103.out) (Kd.aZ_ ho4) hb); replace HB := Aside0.mk (ac_ (bz HB.out) hb); clear hb ho4) | ((with_reducible refine aH_ (N := 3) rfl ?_); refine Kd.R_lit (Kd.int .i64) _ 2 ?hg (N := 3) ?hd (xs := ([15, 33, 280] : List Int)) (inner := [.int .i64 15, .int .i64 33, .int .i64 280]) (ok := fun _ => True) (okp := fun _ => True) ?hr ?hp (fun _ hk => hk) trivial (Below.refl _ _) (Nat.le_refl _) (by simp) ?_; (case hd => rfl); (case hg => rfl); (case hr => (go_simp; try rfl)); (case hp => exact (Reps.one (show Kd.M (Kd.int .i64) _ _ _ 15 [.int .i64 15] from rfl) (Reps.one (show Kd.M (Kd.int .i64) _ _ _ 33 [.int .i64 33] from rfl) (Reps.one (show Kd.M (Kd.int .i64) _ _ _ 280 [.int .i64 280] from rfl) (Reps.none _ _))))); intro v108 w5 ho6 hb hg_ hnew_; clear hg_ hnew_; (first | rw [← Ny107.out] at ho6 | (simp only [Int.reduceToNat] at ho6; rw [← Ny107.out] at ho6)); have HO109 := Aside0.mk (Kd.bt_ (Kd.bB_ (Kd.bB_ (Kd.do_ (M := fun k_ => (w.heap.size ≤ k_)) ho6 (ae_ (bz HB.out)) (fun k_ h_ => h_)) (Kd.R_lt (rz HO103.out))) (Kd.R_lt (rz HO106.out))) (ae_ (bz HB.out))); replace HO103 := Aside0.mk (Kd.aK_ (rz HO103.out) (Kd.aZ_ ho6) hb); replace HO106 := Aside0.mk (Kd.aK_ (rz HO106.out) (Kd.aZ_ ho6) hb); replace HB := Aside0.mk (ac_ (bz HB.out) hb); clear hb ho6) | ((with_reducible refine aH_ (N := 4) rfl ?_); refine Kd.R_lit (Kd.int .i64) _ 2 ?hg (N := 4) ?hd (xs := ([50, 36, 240] : List Int)) (inner := [.int .i64 50, .int .i64 36, .int .i64 240]) (ok := fun _ => True) (okp := fun _ => True) ?hr ?hp (fun _ hk => hk) trivial (Below.refl _ _) (Nat.le_refl _) (by simp) ?_; (case hd => rfl); (case hg => rfl); (case hr => (go_simp; try rfl)); (case hp => exact (Reps.one (show Kd.M (Kd.int .i64) _ _ _ 50 [.int .i64 50] from rfl) (Reps.one (show Kd.M (Kd.int .i64) _ _ _ 36 [.int .i64 36] from rfl) (Reps.one (show Kd.M (Kd.int .i64) _ _ _ 240 [.int .i64 240] from rfl) (Reps.none _ _))))); intro v111 w7 ho8 hb hg_ hnew_; clear hg_ hnew_; (first | rw [← Ny110.out] at ho8 | (simp only [Int.reduceToNat] at ho8; rw [← Ny110.out] at ho8)); have HO112 := Aside0.mk (Kd.bt_ (Kd.bB_ (Kd.bB_ (Kd.bB_ (Kd.do_ (M := fun k_ => (w.heap.size ≤ k_)) ho8 (ae_ (bz HB.out)) (fun k_ h_ => h_)) (Kd.R_lt (rz HO103.out))) (Kd.R_lt (rz HO106.out))) (Kd.R_lt (rz HO109.out))) (ae_ (bz HB.out))); replace HO103 := Aside0.mk (Kd.aK_ (rz HO103.out) (Kd.aZ_ ho8) hb); replace HO106 := Aside0.mk (Kd.aK_ (rz HO106.out) (Kd.aZ_ ho8) hb); replace HO109 := Aside0.mk (Kd.aK_ (rz HO109.out) (Kd.aZ_ ho8) hb); replace HB := Aside0.mk (ac_ (bz HB.out) hb); clear hb ho8) | ((with_reducible refine aH_ (N := 5) rfl ?_); refine Kd.R_lit (Kd.int .i64) _ 2 ?hg (N := 5) ?hd (xs := ([95, 85, 270] : List Int)) (inner := [.int .i64 95, .int .i64 85, .int .i64 270]) (ok := fun _ => True) (okp := fun _ => True) ?hr ?hp (fun _ hk => hk) trivial (Below.refl _ _) (Nat.le_refl _) (by simp) ?_; (case hd => rfl); (case hg => rfl); (case hr => (go_simp; try rfl)); (case hp => exact (Reps.one (show Kd.M (Kd.int .i64) _ _ _ 95 [.int .i64 95] from rfl) (Reps.one (show Kd.M (Kd.int .i64) _ _ _ 85 [.int .i64 85] from rfl) (Reps.one (show Kd.M (Kd.int .i64) _ _ _ 270 [.int .i64 270] from rfl) (Reps.none _ _))))); intro v114 w9 ho10 hb hg_ hnew_; clear hg_ hnew_; (first | rw [← Ny113.out] at ho10 | (simp only [Int.reduceToNat] at ho10; rw [← Ny113.out] at ho10)); have HO115 := Aside0.mk (Kd.bt_ (Kd.bB_ (Kd.bB_ (Kd.bB_ (Kd.bB_ (Kd.do_ (M := fun k_ => (w.heap.size ≤ k_)) ho10 (ae_ (bz HB.out)) (fun k_ h_ => h_)) (Kd.R_lt (rz HO103.out))) (Kd.R_lt (rz HO106.out))) (Kd.R_lt (rz HO109.out))) (Kd.R_lt (rz HO112.out))) (ae_ (bz HB.out))); replace HO103 := Aside0.mk (Kd.aK_ (rz HO103.out) (Kd.aZ_ ho10) hb); replace HO106 := Aside0.mk (Kd.aK_ (rz HO106.out) (Kd.aZ_ ho10) hb); replace HO109 := Aside0.mk (Kd.aK_ (rz HO109.out) (Kd.aZ_ ho10) hb); replace HO112 := Aside0.mk (Kd.aK_ (rz HO112.out) (Kd.aZ_ ho10) hb); replace HB := Aside0.mk (ac_ (bz HB.out) hb); clear hb ho10) | ((with_reducible refine aH_ (N := 6) rfl ?_); refine Kd.R_lit (Kd.int .i64) _ 2 ?hg (N := 6) ?hd (xs := ([5, 35, 370] : List Int)) (inner := [.int .i64 5, .int .i64 35, .int .i64 370]) (ok := fun _ => True) (okp := fun _ => True) ?hr ?hp (fun _ hk => hk) trivial (Below.refl _ _) (Nat.le_refl _) (by simp) ?_; (case hd => rfl); (case hg => rfl); (case hr => (go_simp; try rfl)); (case hp => exact (Reps.one (show Kd.M (Kd.int .i64) _ _ _ 5 [.int .i64 5] from rfl) (Reps.one (show Kd.M (Kd.int .i64) _ _ _ 35 [.int .i64 35] from rfl) (Reps.one (show Kd.M (Kd.int .i64) _ _ _ 370 [.int .i64 370] from rfl) (Reps.none _ _))))); intro v117 w11 ho12 hb hg_ hnew_; clear hg_ hnew_; (first | rw [← Ny116.out] at ho12 | (simp only [Int.reduceToNat] at ho12; rw [← Ny116.out] at ho12)); have HO118 := Aside0.mk (Kd.bt_ (Kd.bB_ (Kd.bB_ (Kd.bB_ (Kd.bB_ (Kd.bB_ (Kd.do_ (M := fun k_ => (w.heap.size ≤ k_)) ho12 (ae_ (bz HB.out)) (fun k_ h_ => h_)) (Kd.R_lt (rz HO103.out))) (Kd.R_lt (rz HO106.out))) (Kd.R_lt (rz HO109.out))) (Kd.R_lt (rz HO112.out))) (Kd.R_lt (rz HO115.out))) (ae_ (bz HB.out))); replace HO103 := Aside0.mk (Kd.aK_ (rz HO103.out) (Kd.aZ_ ho12) hb); replace HO106 := Aside0.mk (Kd.aK_ (rz HO106.out) (Kd.aZ_ ho12) hb); replace HO109 := Aside0.mk (Kd.aK_ (rz HO109.out) (Kd.aZ_ ho12) hb); replace HO112 := Aside0.mk (Kd.aK_ (rz HO112.out) (Kd.aZ_ ho12) hb); replace HO115 := Aside0.mk (Kd.aK_ (rz HO115.out) (Kd.aZ_ ho12) hb); replace HB := Aside0.mk (ac_ (bz HB.out) hb); clear hb ho12) | ((with_reducible refine aH_ (N := 7) rfl ?_); refine Kd.R_lit (Kd.int .i64) _ 2 ?hg (N := 7) ?hd (xs := ([10, 42, 290] : List Int)) (inner := [.int .i64 10, .int .i64 42, .int .i64 290]) (ok := fun _ => True) (okp := fun _ => True) ?hr ?hp (fun _ hk => hk) trivial (Below.refl _ _) (Nat.le_refl _) (by simp) ?_; (case hd => rfl); (case hg => rfl); (case hr => (go_simp; try rfl)); (case hp => exact (Reps.one (show Kd.M (Kd.int .i64) _ _ _ 10 [.int .i64 10] from rfl) (Reps.one (show Kd.M (Kd.int .i64) _ _ _ 42 [.int .i64 42] from rfl) (Reps.one (show Kd.M (Kd.int .i64) _ _ _ 290 [.int .i64 290] from rfl) (Reps.none _ _))))); intro v120 w13 ho14 hb hg_ hnew_; clear hg_ hnew_; (first | rw [← Ny119.out] at ho14 | (simp only [Int.reduceToNat] at ho14; rw [← Ny119.out] at ho14)); have HO121 := Aside0.mk (Kd.bt_ (Kd.bB_ (Kd.bB_ (Kd.bB_ (Kd.bB_ (Kd.bB_ (Kd.bB_ (Kd.do_ (M := fun k_ => (w.heap.size ≤ k_)) ho14 (ae_ (bz HB.out)) (fun k_ h_ => h_)) (Kd.R_lt (rz HO103.out))) (Kd.R_lt (rz HO106.out))) (Kd.R_lt (rz HO109.out))) (Kd.R_lt (rz HO112.out))) (Kd.R_lt (rz HO115.out))) (Kd.R_lt (rz HO118.out))) (ae_ (bz HB.out))); replace HO103 := Aside0.mk (Kd.aK_ (rz HO103.out) (Kd.aZ_ ho14) hb); replace HO106 := Aside0.mk (Kd.aK_ (rz HO106.out) (Kd.aZ_ ho14) hb); replace HO109 := Aside0.mk (Kd.aK_ (rz HO109.out) (Kd.aZ_ ho14) hb); replace HO112 := Aside0.mk (Kd.aK_ (rz HO112.out) (Kd.aZ_ ho14) hb); replace HO115 := Aside0.mk (Kd.aK_ (rz HO115.out) (Kd.aZ_ ho14) hb); replace HO118 := Aside0.mk (Kd.aK_ (rz HO118.out) (Kd.aZ_ ho14) hb); replace HB := Aside0.mk (ac_ (bz HB.out) hb); clear hb ho14) | ((with_reducible refine aH_ (N := 8) rfl ?_); refine Kd.R_lit (Kd.int .i64) _ 2 ?hg (N := 8) ?hd (xs := ([40, 40, 330] : List Int)) (inner := [.int .i64 40, .int .i64 40, .int .i64 330]) (ok := fun _ => True) (okp := fun _ => True) ?hr ?hp (fun _ hk => hk) trivial (Below.refl _ _) (Nat.le_refl _) (by simp) ?_; (case hd => rfl); (case hg => rfl); (case hr => (go_simp; try rfl)); (case hp => exact (Reps.one (show Kd.M (Kd.int .i64) _ _ _ 40 [.int .i64 40] from rfl) (Reps.one (show Kd.M (Kd.int .i64) _ _ _ 40 [.int .i64 40] from rfl) (Reps.one (show Kd.M (Kd.int .i64) _ _ _ 330 [.int .i64 330] from rfl) (Reps.none _ _))))); intro v123 w15 ho16 hb hg_ hnew_; clear hg_ hnew_; (first | rw [← Ny122.out] at ho16 | (simp only [Int.reduceToNat] at ho16; rw [← Ny122.out] at ho16)); have HO124 := Aside0.mk (Kd.bt_ (Kd.bB_ (Kd.bB_ (Kd.bB_ (Kd.bB_ (Kd.bB_ (Kd.bB_ (Kd.bB_ (Kd.do_ (M := fun k_ => (w.heap.size ≤ k_)) ho16 (ae_ (bz HB.out)) (fun k_ h_ => h_)) (Kd.R_lt (rz HO103.out))) (Kd.R_lt (rz HO106.out))) (Kd.R_lt (rz HO109.out))) (Kd.R_lt (rz HO112.out))) (Kd.R_lt (rz HO115.out))) (Kd.R_lt (rz HO118.out))) (Kd.R_lt (rz HO121.out))) (ae_ (bz HB.out))); replace HO103 := Aside0.mk (Kd.aK_ (rz HO103.out) (Kd.aZ_ ho16) hb); replace HO106 := Aside0.mk (Kd.aK_ (rz HO106.out) (Kd.aZ_ ho16) hb); replace HO109 := Aside0.mk (Kd.aK_ (rz HO109.out) (Kd.aZ_ ho16) hb); replace HO112 := Aside0.mk (Kd.aK_ (rz HO112.out) (Kd.aZ_ ho16) hb); replace HO115 := Aside0.mk (Kd.aK_ (rz HO115.out) (Kd.aZ_ ho16) hb); replace HO118 := Aside0.mk (Kd.aK_ (rz HO118.out) (Kd.aZ_ ho16) hb); replace HO121 := Aside0.mk (Kd.aK_ (rz HO121.out) (Kd.aZ_ ho16) hb); replace HB := Aside0.mk (ac_ (bz HB.out) hb); clear hb ho16) | ((with_reducible refine aH_ (N := 9) rfl ?_); refine Kd.R_lit (Kd.int .i64) _ 2 ?hg (N := 9) ?hd (xs := ([80, 60, 220] : List Int)) (inner := [.int .i64 80, .int .i64 60, .int .i64 220]) (ok := fun _ => True) (okp := fun _ => True) ?hr ?hp (fun _ hk => hk) trivial (Below.refl _ _) (Nat.le_refl _) (by simp) ?_; (case hd => rfl); (case hg => rfl); (case hr => (go_simp; try rfl)); (case hp => exact (Reps.one (show Kd.M (Kd.int .i64) _ _ _ 80 [.int .i64 80] from rfl) (Reps.one (show Kd.M (Kd.int .i64) _ _ _ 60 [.int .i64 60] from rfl) (Reps.one (show Kd.M (Kd.int .i64) _ _ _ 220 [.int .i64 220] from rfl) (Reps.none _ _))))); intro v126 w17 ho18 hb hg_ hnew_; clear hg_ hnew_; (first | rw [← Ny125.out] at ho18 | (simp only [Int.reduceToNat] at ho18; rw [← Ny125.out] at ho18)); have HO127 := Aside0.mk (Kd.bt_ (Kd.bB_ (Kd.bB_ (Kd.bB_ (Kd.bB_ (Kd.bB_ (Kd.bB_ (Kd.bB_ (Kd.bB_ (Kd.do_ (M := fun k_ => (w.heap.size ≤ k_)) ho18 (ae_ (bz HB.out)) (fun k_ h_ => h_)) (Kd.R_lt (rz HO103.out))) (Kd.R_lt (rz HO106.out))) (Kd.R_lt (rz HO109.out))) (Kd.R_lt (rz HO112.out))) (Kd.R_lt (rz HO115.out))) (Kd.R_lt (rz HO118.out))) (Kd.R_lt (rz HO121.out))) (Kd.R_lt (rz HO124.out))) (ae_ (bz HB.out))); replace HO103 := Aside0.mk (Kd.aK_ (rz HO103.out) (Kd.aZ_ ho18) hb); replace HO106 := Aside0.mk (Kd.aK_ (rz HO106.out) (Kd.aZ_ ho18) hb); replace HO109 := Aside0.mk (Kd.aK_ (rz HO109.out) (Kd.aZ_ ho18) hb); replace HO112 := Aside0.mk (Kd.aK_ (rz HO112.out) (Kd.aZ_ ho18) hb); replace HO115 := Aside0.mk (Kd.aK_ (rz HO115.out) (Kd.aZ_ ho18) hb); replace HO118 := Aside0.mk (Kd.aK_ (rz HO118.out) (Kd.aZ_ ho18) hb); replace HO121 := Aside0.mk (Kd.aK_ (rz HO121.out) (Kd.aZ_ ho18) hb); replace HO124 := Aside0.mk (Kd.aK_ (rz HO124.out) (Kd.aZ_ ho18) hb); replace HB := Aside0.mk (ac_ (bz HB.out) hb); clear hb ho18) | ((with_reducible refine aH_ (N := 10) rfl ?_); refine Kd.R_lit (Kd.int .i64) _ 2 ?hg (N := 10) ?hd (xs := ([70, 38, 260] : List Int)) (inner := [.int .i64 70, .int .i64 38, .int .i64 260]) (ok := fun _ => True) (okp := fun _ => True) ?hr ?hp (fun _ hk => hk) trivial (Below.refl _ _) (Nat.le_refl _) (by simp) ?_; (case hd => rfl); (case hg => rfl); (case hr => (go_simp; try rfl)); (case hp => exact (Reps.one (show Kd.M (Kd.int .i64) _ _ _ 70 [.int .i64 70] from rfl) (Reps.one (show Kd.M (Kd.int .i64) _ _ _ 38 [.int .i64 38] from rfl) (Reps.one (show Kd.M (Kd.int .i64) _ _ _ 260 [.int .i64 260] from rfl) (Reps.none _ _))))); intro v129 w19 ho20 hb hg_ hnew_; clear hg_ hnew_; (first | rw [← Ny128.out] at ho20 | (simp only [Int.reduceToNat] at ho20; rw [← Ny128.out] at ho20)); have HO130 := Aside0.mk (Kd.bt_ (Kd.bB_ (Kd.bB_ (Kd.bB_ (Kd.bB_ (Kd.bB_ (Kd.bB_ (Kd.bB_ (Kd.bB_ (Kd.bB_ (Kd.do_ (M := fun k_ => (w.heap.size ≤ k_)) ho20 (ae_ (bz HB.out)) (fun k_ h_ => h_)) (Kd.R_lt (rz HO103.out))) (Kd.R_lt (rz HO106.out))) (Kd.R_lt (rz HO109.out))) (Kd.R_lt (rz HO112.out))) (Kd.R_lt (rz HO115.out))) (Kd.R_lt (rz HO118.out))) (Kd.R_lt (rz HO121.out))) (Kd.R_lt (rz HO124.out))) (Kd.R_lt (rz HO127.out))) (ae_ (bz HB.out))); replace HO103 := Aside0.mk (Kd.aK_ (rz HO103.out) (Kd.aZ_ ho20) hb); replace HO106 := Aside0.mk (Kd.aK_ (rz HO106.out) (Kd.aZ_ ho20) hb); replace HO109 := Aside0.mk (Kd.aK_ (rz HO109.out) (Kd.aZ_ ho20) hb); replace HO112 := Aside0.mk (Kd.aK_ (rz HO112.out) (Kd.aZ_ ho20) hb); replace HO115 := Aside0.mk (Kd.aK_ (rz HO115.out) (Kd.aZ_ ho20) hb); replace HO118 := Aside0.mk (Kd.aK_ (rz HO118.out) (Kd.aZ_ ho20) hb); replace HO121 := Aside0.mk (Kd.aK_ (rz HO121.out) (Kd.aZ_ ho20) hb); replace HO124 := Aside0.mk (Kd.aK_ (rz HO124.out) (Kd.aZ_ ho20) hb); replace HO127 := Aside0.mk (Kd.aK_ (rz HO127.out) (Kd.aZ_ ho20) hb); replace HB := Aside0.mk (ac_ (bz HB.out) hb); clear hb ho20; obtain ⟨Ao21, co21, eo21⟩ := Kd.bn_ HO103.out; subst eo21; obtain ⟨Ao22, co22, eo22⟩ := Kd.bn_ HO106.out; subst eo22; obtain ⟨Ao23, co23, eo23⟩ := Kd.bn_ HO109.out; subst eo23; obtain ⟨Ao24, co24, eo24⟩ := Kd.bn_ HO112.out; subst eo24; obtain ⟨Ao25, co25, eo25⟩ := Kd.bn_ HO115.out; subst eo25; obtain ⟨Ao26, co26, eo26⟩ := Kd.bn_ HO118.out; subst eo26; obtain ⟨Ao27, co27, eo27⟩ := Kd.bn_ HO121.out; subst eo27; obtain ⟨Ao28, co28, eo28⟩ := Kd.bn_ HO124.out; subst eo28; obtain ⟨Ao29, co29, eo29⟩ := Kd.bn_ HO127.out; subst eo29; obtain ⟨Ao30, co30, eo30⟩ := Kd.bn_ HO130.out; subst eo30) | ((with_reducible refine aH_ (N := 11) rfl ?_); refine Kd.N_lit (Kd.slice 2 (Kd.int .i64)) _ 100 ?hg (N' := 11) ?hd (xs := ([y101, y104, y107, y110, y113, y116, y119, y122, y125, y128] : List (List Int))) (inner := [.slice Ao21 y101.length co21, .slice Ao22 y104.length co22, .slice Ao23 y107.length co23, .slice Ao24 y110.length co24, .slice Ao25 y113.length co25, .slice Ao26 y116.length co26, .slice Ao27 y119.length co27, .slice Ao28 y122.length co28, .slice Ao29 y125.length co29, .slice Ao30 y128.length co30]) (ok := (fun k_ => (w.heap.size ≤ k_))) (okp := (fun k_ => (w.heap.size ≤ k_))) ?hr ?hp (fun _ hk => hk) ((show ∀ k_, w19.heap.size ≤ k_ → (fun k_ => (w.heap.size ≤ k_)) k_ from fun k_ hk => (Nat.le_trans (ae_ (bz HB.out)) hk)) _ (Nat.le_refl _)) (Below.refl _ _) (Nat.le_refl _) (by simp) ?_; (case hd => rfl); (case hg => rfl); (case hr => (go_simp; try rfl)); (case hp => exact (Reps.one (show Kd.FK (Kd.slice 2 (Kd.int .i64)) _ _ y101 [.slice Ao21 y101.length co21] from (Kd.cg_ (Kd.as_ (Kd.aB_ (ok' := (fun k_ => (w.heap.size ≤ k_))) (HO103.out) (fun k_ hk => hk.1.1.1.1.1.1.1.1.1.1))).2.1 (Kd.R_F (Kd.aB_ (ok' := (fun k_ => (w.heap.size ≤ k_))) (HO103.out) (fun k_ hk => hk.1.1.1.1.1.1.1.1.1.1))))) (Reps.one (show Kd.FK (Kd.slice 2 (Kd.int .i64)) _ _ y104 [.slice Ao22 y104.length co22] from (Kd.cg_ (Kd.as_ (Kd.aB_ (ok' := (fun k_ => (w.heap.size ≤ k_))) (HO106.out) (fun k_ hk => hk.1.1.1.1.1.1.1.1.1.1))).2.1 (Kd.R_F (Kd.aB_ (ok' := (fun k_ => (w.heap.size ≤ k_))) (HO106.out) (fun k_ hk => hk.1.1.1.1.1.1.1.1.1.1))))) (Reps.one (show Kd.FK (Kd.slice 2 (Kd.int .i64)) _ _ y107 [.slice Ao23 y107.length co23] from (Kd.cg_ (Kd.as_ (Kd.aB_ (ok' := (fun k_ => (w.heap.size ≤ k_))) (HO109.out) (fun k_ hk => hk.1.1.1.1.1.1.1.1.1.1))).2.1 (Kd.R_F (Kd.aB_ (ok' := (fun k_ => (w.heap.size ≤ k_))) (HO109.out) (fun k_ hk => hk.1.1.1.1.1.1.1.1.1.1))))) (Reps.one (show Kd.FK (Kd.slice 2 (Kd.int .i64)) _ _ y110 [.slice Ao24 y110.length co24] from (Kd.cg_ (Kd.as_ (Kd.aB_ (ok' := (fun k_ => (w.heap.size ≤ k_))) (HO112.out) (fun k_ hk => hk.1.1.1.1.1.1.1.1.1.1))).2.1 (Kd.R_F (Kd.aB_ (ok' := (fun k_ => (w.heap.size ≤ k_))) (HO112.out) (fun k_ hk => hk.1.1.1.1.1.1.1.1.1.1))))) (Reps.one (show Kd.FK (Kd.slice 2 (Kd.int .i64)) _ _ y113 [.slice Ao25 y113.length co25] from (Kd.cg_ (Kd.as_ (Kd.aB_ (ok' := (fun k_ => (w.heap.size ≤ k_))) (HO115.out) (fun k_ hk => hk.1.1.1.1.1.1.1.1.1.1))).2.1 (Kd.R_F (Kd.aB_ (ok' := (fun k_ => (w.heap.size ≤ k_))) (HO115.out) (fun k_ hk => hk.1.1.1.1.1.1.1.1.1.1))))) (Reps.one (show Kd.FK (Kd.slice 2 (Kd.int .i64)) _ _ y116 [.slice Ao26 y116.length co26] from (Kd.cg_ (Kd.as_ (Kd.aB_ (ok' := (fun k_ => (w.heap.size ≤ k_))) (HO118.out) (fun k_ hk => hk.1.1.1.1.1.1.1.1.1.1))).2.1 (Kd.R_F (Kd.aB_ (ok' := (fun k_ => (w.heap.size ≤ k_))) (HO118.out) (fun k_ hk => hk.1.1.1.1.1.1.1.1.1.1))))) (Reps.one (show Kd.FK (Kd.slice 2 (Kd.int .i64)) _ _ y119 [.slice Ao27 y119.length co27] from (Kd.cg_ (Kd.as_ (Kd.aB_ (ok' := (fun k_ => (w.heap.size ≤ k_))) (HO121.out) (fun k_ hk => hk.1.1.1.1.1.1.1.1.1.1))).2.1 (Kd.R_F (Kd.aB_ (ok' := (fun k_ => (w.heap.size ≤ k_))) (HO121.out) (fun k_ hk => hk.1.1.1.1.1.1.1.1.1.1))))) (Reps.one (show Kd.FK (Kd.slice 2 (Kd.int .i64)) _ _ y122 [.slice Ao28 y122.length co28] from (Kd.cg_ (Kd.as_ (Kd.aB_ (ok' := (fun k_ => (w.heap.size ≤ k_))) (HO124.out) (fun k_ hk => hk.1.1.1.1.1.1.1.1.1.1))).2.1 (Kd.R_F (Kd.aB_ (ok' := (fun k_ => (w.heap.size ≤ k_))) (HO124.out) (fun k_ hk => hk.1.1.1.1.1.1.1.1.1.1))))) (Reps.one (show Kd.FK (Kd.slice 2 (Kd.int .i64)) _ _ y125 [.slice Ao29 y125.length co29] from (Kd.cg_ (Kd.as_ (Kd.aB_ (ok' := (fun k_ => (w.heap.size ≤ k_))) (HO127.out) (fun k_ hk => hk.1.1.1.1.1.1.1.1.1.1))).2.1 (Kd.R_F (Kd.aB_ (ok' := (fun k_ => (w.heap.size ≤ k_))) (HO127.out) (fun k_ hk => hk.1.1.1.1.1.1.1.1.1.1))))) (Reps.one (show Kd.FK (Kd.slice 2 (Kd.int .i64)) _ _ y128 [.slice Ao30 y128.length co30] from (Kd.cg_ (Kd.as_ (Kd.aB_ (ok' := (fun k_ => (w.heap.size ≤ k_))) (HO130.out) (fun k_ hk => hk.1.1.1.1.1.1.1.1.1.1))).2.1 (Kd.R_F (Kd.aB_ (ok' := (fun k_ => (w.heap.size ≤ k_))) (HO130.out) (fun k_ hk => hk.1.1.1.1.1.1.1.1.1.1))))) (Reps.none _ _)))))))))))); intro v132 w31 ho32 hb hg_ hnew_; clear hg_ hnew_; (first | rw [← Ny131.out] at ho32 | (simp only [Int.reduceToNat] at ho32; rw [← Ny131.out] at ho32)); have HO133 := Aside0.mk (Kd.ds_ ho32 (ae_ (bz HB.out))); replace HB := Aside0.mk (ac_ (bz HB.out) hb); clear HO103; clear HO106; clear HO109; clear HO112; clear HO115; clear HO118; clear HO121; clear HO124; clear HO127; clear HO130; clear hb ho32))
 go_ret
 exact ⟨_, by first | rfl | (simp [*, ao_, an_] <;> rfl), nz HO133.out, bz HB.out⟩
def cf_.f  : Option (List ByteArray) := some (([(⟨#[97, 115, 104]⟩ : ByteArray), (⟨#[98, 101, 101, 99, 104]⟩ : ByteArray), (⟨#[98, 105, 114, 99, 104]⟩ : ByteArray), (⟨#[99, 104, 101, 114, 114, 121]⟩ : ByteArray), (⟨#[101, 98, 111, 110, 121]⟩ : ByteArray), (⟨#[104, 111, 108, 108, 121]⟩ : ByteArray), (⟨#[109, 97, 112, 108, 101]⟩ : ByteArray), (⟨#[111, 97, 107]⟩ : ByteArray), (⟨#[114, 111, 115, 101, 119, 111, 111, 100]⟩ : ByteArray), (⟨#[119, 97, 108, 110, 117, 116]⟩ : ByteArray)] : List ByteArray))
set_option maxHeartbeats 8000000 in
set_option maxRecDepth 100000 in
theorem cf_.calls  (r : List ByteArray) (w : World) (h : cf_.f  = some r) :
  Calls Try.prog 101 #[] w fun e w' => ∃ v0_ : Value, e = .returned (v0_) ∧ Kd.R Kd.string 9 w' w.heap.size (fun _ => True) v0_ r ∧ Below w.heap.size w w' := by
 have HB := Aside0.mk (Below.refl w.heap.size w)
 have H : (some (([(⟨#[97, 115, 104]⟩ : ByteArray), (⟨#[98, 101, 101, 99, 104]⟩ : ByteArray), (⟨#[98, 105, 114, 99, 104]⟩ : ByteArray), (⟨#[99, 104, 101, 114, 114, 121]⟩ : ByteArray), (⟨#[101, 98, 111, 110, 121]⟩ : ByteArray), (⟨#[104, 111, 108, 108, 121]⟩ : ByteArray), (⟨#[109, 97, 112, 108, 101]⟩ : ByteArray), (⟨#[111, 97, 107]⟩ : ByteArray), (⟨#[114, 111, 115, 101, 119, 111, 111, 100]⟩ : ByteArray), (⟨#[119, 97, 108, 110, 117, 116]⟩ : ByteArray)] : List ByteArray))) = some r := h
 clear h
 obtain ⟨y101, hy101⟩ : ∃ y_ : List ByteArray, y_ = (([(⟨#[97, 115, 104]⟩ : ByteArray), (⟨#[98, 101, 101, 99, 104]⟩ : ByteArray), (⟨#[98, 105, 114, 99, 104]⟩ : ByteArray), (⟨#[99, 104, 101, 114, 114, 121]⟩ : ByteArray), (⟨#[101, 98, 111, 110, 121]⟩ : ByteArray), (⟨#[104, 111, 108, 108, 121]⟩ : ByteArray), (⟨#[109, 97, 112, 108, 101]⟩ : ByteArray), (⟨#[111, 97, 107]⟩ : ByteArray), (⟨#[114, 111, 115, 101, 119, 111, 111, 100]⟩ : ByteArray), (⟨#[119, 97, 108, 110, 117, 116]⟩ : ByteArray)] : List ByteArray)) := ⟨_, rfl⟩
 replace H : (some y101) = some r := by first | (rw [hy101]; with_reducible exact H) | (have H2_ := (Option.bind_some _ _).symm.trans H; rw [hy101]; with_reducible exact H2_) | (have H2_ := (Option.bind_some _ _).symm.trans H; with_reducible exact H2_) | with_reducible exact H | (rw [hy101]; exact H) | exact H
 have Ny101 := Aside0.mk hy101
 clear hy101
 obtain rfl := Option.some.inj H
 go_enter Try.func101, Try.ntmps101
 go_wp2_with (first | ((with_reducible refine aH_ (N := 1) rfl ?_); refine Kd.R_lit Kd.string _ 9 ?hg (N := 1) ?hd (xs := ([(⟨#[97, 115, 104]⟩ : ByteArray), (⟨#[98, 101, 101, 99, 104]⟩ : ByteArray), (⟨#[98, 105, 114, 99, 104]⟩ : ByteArray), (⟨#[99, 104, 101, 114, 114, 121]⟩ : ByteArray), (⟨#[101, 98, 111, 110, 121]⟩ : ByteArray), (⟨#[104, 111, 108, 108, 121]⟩ : ByteArray), (⟨#[109, 97, 112, 108, 101]⟩ : ByteArray), (⟨#[111, 97, 107]⟩ : ByteArray), (⟨#[114, 111, 115, 101, 119, 111, 111, 100]⟩ : ByteArray), (⟨#[119, 97, 108, 110, 117, 116]⟩ : ByteArray)] : List ByteArray)) (inner := [.string (⟨#[97, 115, 104]⟩ : ByteArray), .string (⟨#[98, 101, 101, 99, 104]⟩ : ByteArray), .string (⟨#[98, 105, 114, 99, 104]⟩ : ByteArray), .string (⟨#[99, 104, 101, 114, 114, 121]⟩ : ByteArray), .string (⟨#[101, 98, 111, 110, 121]⟩ : ByteArray), .string (⟨#[104, 111, 108, 108, 121]⟩ : ByteArray), .string (⟨#[109, 97, 112, 108, 101]⟩ : ByteArray), .string (⟨#[111, 97, 107]⟩ : ByteArray), .string (⟨#[114, 111, 115, 101, 119, 111, 111, 100]⟩ : ByteArray), .string (⟨#[119, 97, 108, 110, 117, 116]⟩ : ByteArray)]) (ok := fun _ => True) (okp := fun _ => True) ?hr ?hp (fun _ hk => hk) trivial (Below.refl _ _) (Nat.le_refl _) (by simp) ?_; (case hd => rfl); (case hg => rfl); (case hr => (go_simp; try rfl)); (case hp => exact (Reps.one (show Kd.M Kd.string _ _ _ (⟨#[97, 115, 104]⟩ : ByteArray) [.string (⟨#[97, 115, 104]⟩ : ByteArray)] from rfl) (Reps.one (show Kd.M Kd.string _ _ _ (⟨#[98, 101, 101, 99, 104]⟩ : ByteArray) [.string (⟨#[98, 101, 101, 99, 104]⟩ : ByteArray)] from rfl) (Reps.one (show Kd.M Kd.string _ _ _ (⟨#[98, 105, 114, 99, 104]⟩ : ByteArray) [.string (⟨#[98, 105, 114, 99, 104]⟩ : ByteArray)] from rfl) (Reps.one (show Kd.M Kd.string _ _ _ (⟨#[99, 104, 101, 114, 114, 121]⟩ : ByteArray) [.string (⟨#[99, 104, 101, 114, 114, 121]⟩ : ByteArray)] from rfl) (Reps.one (show Kd.M Kd.string _ _ _ (⟨#[101, 98, 111, 110, 121]⟩ : ByteArray) [.string (⟨#[101, 98, 111, 110, 121]⟩ : ByteArray)] from rfl) (Reps.one (show Kd.M Kd.string _ _ _ (⟨#[104, 111, 108, 108, 121]⟩ : ByteArray) [.string (⟨#[104, 111, 108, 108, 121]⟩ : ByteArray)] from rfl) (Reps.one (show Kd.M Kd.string _ _ _ (⟨#[109, 97, 112, 108, 101]⟩ : ByteArray) [.string (⟨#[109, 97, 112, 108, 101]⟩ : ByteArray)] from rfl) (Reps.one (show Kd.M Kd.string _ _ _ (⟨#[111, 97, 107]⟩ : ByteArray) [.string (⟨#[111, 97, 107]⟩ : ByteArray)] from rfl) (Reps.one (show Kd.M Kd.string _ _ _ (⟨#[114, 111, 115, 101, 119, 111, 111, 100]⟩ : ByteArray) [.string (⟨#[114, 111, 115, 101, 119, 111, 111, 100]⟩ : ByteArray)] from rfl) (Reps.one (show Kd.M Kd.string _ _ _ (⟨#[119, 97, 108, 110, 117, 116]⟩ : ByteArray) [.string (⟨#[119, 97, 108, 110, 117, 116]⟩ : ByteArray)] from rfl) (Reps.none _ _)))))))))))); intro v102 w1 ho2 hb hg_ hnew_; clear hg_ hnew_; (first | rw [← Ny101.out] at ho2 | (simp only [Int.reduceToNat] at ho2; rw [← Ny101.out] at ho2)); have HO103 := Aside0.mk (Kd.bt_ ho2 (ae_ (bz HB.out))); replace HB := Aside0.mk (ac_ (bz HB.out) hb); clear hb ho2))
 go_ret
 exact ⟨_, by first | rfl | (simp [*, ao_, an_] <;> rfl), rz HO103.out, bz HB.out⟩
def cL_.f (a0 : Int) (a1 : Int) : Option (Int) := if a0 < a1 then (some a0) else (some a1)
set_option maxHeartbeats 8000000 in
set_option maxRecDepth 100000 in
theorem cL_.calls (a0 : Int) (a1 : Int) (r : Int) (w : World) (h : cL_.f a0 a1 = some r) :
  Calls Try.prog 102 #[.int .i64 a0, .int .i64 a1] w fun e w' => e = .returned (.int .i64 r) ∧ aq_ w w' := by
 have H : (if a0 < a1 then (some a0) else (some a1)) = some r := h
 clear h
 by_cases c3 : a0 < a1
 rotate_left
 ·rw [if_neg c3] at H
  have c3b0 : decide (a0 < a1) = false := decide_eq_false c3
  clear c3
  obtain rfl := Option.some.inj H
  go_enter Try.func102, Try.ntmps102
  go_wp2
  go_ret
  exact ⟨by first | rfl | (simp; done) | (simp [*]; done), by repeat (first | exact aq_.refl _ | apply aq_.step)⟩
 rw [if_pos c3] at H
 have c3b0 : decide (a0 < a1) = true := decide_eq_true c3
 clear c3
 obtain rfl := Option.some.inj H
 go_enter Try.func102, Try.ntmps102
 go_wp2
 go_ret
 exact ⟨by first | rfl | (simp; done) | (simp [*]; done), by repeat (first | exact aq_.refl _ | apply aq_.step)⟩
def cJ_.f (a0 : Int) (a1 : Int) : Option (Int) := if a0 > a1 then (some a0) else (some a1)
set_option maxHeartbeats 8000000 in
set_option maxRecDepth 100000 in
theorem cJ_.calls (a0 : Int) (a1 : Int) (r : Int) (w : World) (h : cJ_.f a0 a1 = some r) :
  Calls Try.prog 103 #[.int .i64 a0, .int .i64 a1] w fun e w' => e = .returned (.int .i64 r) ∧ aq_ w w' := by
 have H : (if a0 > a1 then (some a0) else (some a1)) = some r := h
 clear h
 by_cases c3 : a0 > a1
 rotate_left
 ·rw [if_neg c3] at H
  have c3b0 : decide (a1 < a0) = false := decide_eq_false c3
  clear c3
  obtain rfl := Option.some.inj H
  go_enter Try.func103, Try.ntmps103
  go_wp2
  go_ret
  exact ⟨by first | rfl | (simp; done) | (simp [*]; done), by repeat (first | exact aq_.refl _ | apply aq_.step)⟩
 rw [if_pos c3] at H
 have c3b0 : decide (a1 < a0) = true := decide_eq_true c3
 clear c3
 obtain rfl := Option.some.inj H
 go_enter Try.func103, Try.ntmps103
 go_wp2
 go_ret
 exact ⟨by first | rfl | (simp; done) | (simp [*]; done), by repeat (first | exact aq_.refl _ | apply aq_.step)⟩
def ch_.f (s0_0 : List Int) (s0_1 : Int) (s0_2 : Int) (l1 : List Int) : Option (Int × Int × Int) := (az_.f s0_0 s0_1 s0_2 (l1.length : Int)).bind fun bt101 => (if 0 ≤ bt101.1 then (if bt101.1 < (l1.length : Int) then (some (rd l1 bt101.1, bt101.2.1, bt101.2.2)) else (none)) else (none))
set_option maxHeartbeats 8000000 in
set_option maxRecDepth 100000 in
theorem ch_.calls (g : Nat) (s0_0 : List Int) (s0_1 : Int) (s0_2 : Int) (A1 : Option Addr) (c1 : Nat) (l1 : List Int) (r1 : Int) (r2 : Int) (r3 : Int) (w0 w : World) (hI : aa_ w0 w g s0_0 s0_1 s0_2) (hB : Below w0.heap.size w0 w) (hr1 : Kd.C (Kd.int .i64) w A1 l1.length l1) (hc1 : l1.length ≤ c1) (hf1 : ∀ ad, A1 = some ad → 0 < l1.length → ad.block ≠ g) (h : ch_.f s0_0 s0_1 s0_2 l1 = some (r1, r2, r3)) :
  Calls Try.prog 104 #[.pointer (some ⟨g, 0, none⟩), .slice A1 l1.length c1] w fun e w' => e = .returned (.int .i64 r1) ∧ aa_ w0 w' g s0_0 r2 r3 ∧ Below w0.heap.size w0 w' ∧ ab_ w w' g none := by
 have HR1 := Aside0.mk hr1
 have HC1 := Aside0.mk hc1
 clear hr1 hc1
 have HI0 := Aside0.mk hI
 have HK := Aside0.mk (ab_.refl w g none)
 have HL := Aside0.mk hB.size
 clear hI
 have HW0 := Aside0.mk hB.size
 have HB := Aside0.mk hB
 clear hB
 have H : ((az_.f s0_0 s0_1 s0_2 (l1.length : Int)).bind fun bt101 => (if 0 ≤ bt101.1 then (if bt101.1 < (l1.length : Int) then (some (rd l1 bt101.1, bt101.2.1, bt101.2.2)) else (none)) else (none))) = some (r1, r2, r3) := h
 clear h
 replace H := Option.bind_eq_some_iff.mp H
 obtain ⟨⟨t101, t102, t103⟩, A30, H⟩ := H
 (try dsimp only at H)
 have A3 := Aside0.mk A30
 clear A30
 by_cases c4 : 0 ≤ t101
 rotate_left
 ·rw [if_neg c4] at H
  exact absurd H (by simp)
 rw [if_pos c4] at H
 have c4b0 : decide (0 ≤ t101) = true := decide_eq_true c4
 clear c4
 by_cases c5 : t101 < (l1.length : Int)
 rotate_left
 ·rw [if_neg c5] at H
  exact absurd H (by simp)
 rw [if_pos c5] at H
 have c5b0 : decide (t101 < (l1.length : Int)) = true := decide_eq_true c5
 clear c5
 simp only [Option.some.injEq, Prod.mk.injEq] at H
 obtain ⟨rfl, rfl, rfl⟩ := H
 go_enter Try.func104, Try.ntmps104
 go_wp2_with (first | ((with_reducible refine ah_ (f := 86) rfl ?_); refine aN_ (some 9) rfl rfl Try.func86 (by kernel_rfl) rfl #[.pointer (some ⟨g, 0, none⟩), .int .i64 (l1.length : Int)] rfl (by first | rfl | (simp only [lma_, lmc_, lmn_]; first | done | rfl)) ?_; (with_reducible refine (az_.calls g s0_0 s0_1 s0_2 (l1.length : Int) t101 t102 t103 w0 _ ?side1 ?side2 A3.out).mono ?_); (case side1 => repeat (first | (with_reducible first | exact HI0.out | apply aa_.alloc | apply aa_.drewN | apply aa_.drew | apply aa_.set_1 | apply aa_.set_2) | exact HI0.out)); (case side2 => repeat (first | (with_reducible first | exact HB.out | apply bA_ | apply bN_ | apply bD_ | refine ag_ ?_ (aa_.ge HI0.out)) | exact HB.out)); rintro e w6 ⟨rfl, hi, hb, hk⟩; refine ⟨_, rfl, ?_⟩; replace HK := Aside0.mk (ab_.trans (by repeat (first | (with_reducible first | exact HK.out | apply ab_.set_ | apply aj_ | apply ak_ | apply ai_) | exact HK.out)) hk (.inl rfl)); replace HB := Aside0.mk (hb); replace HI0 := Aside0.mk (hi); (try clear hb); have p104 : 0 ≤ (t101 : Int) := of_decide_eq_true (by assumption); have q104 : t101 < (l1.length : Int) := of_decide_eq_true (by assumption); obtain ⟨ad104, e104, hx104_0⟩ := Kd.at_int HR1.out t101 p104 q104; cases e104; replace hx104_0 := keep_cell HK.out hx104_0 (by first | (rw [add_block]; exact hf1 _ rfl (by omega)) | exact hf1 _ rfl (by omega) | exact hf1 ad104 rfl (by omega)); replace p104 := eq_true p104; replace q104 := eq_true q104))
 go_ret
 exact ⟨by first | rfl | (simp [*, ao_, an_] <;> rfl), by repeat (first | (with_reducible first | exact HI0.out | apply aa_.alloc | apply aa_.drewN | apply aa_.drew | apply aa_.set_1 | apply aa_.set_2) | exact HI0.out), by repeat (first | (with_reducible first | exact HB.out | apply bA_ | apply bN_ | apply bD_ | refine ag_ ?_ (aa_.ge HI0.out)) | exact HB.out), by repeat (first | (with_reducible first | exact HK.out | apply ab_.set_ | apply aj_ | apply ak_ | apply ai_) | exact HK.out)⟩
end Go.Proofs.Ytiheginanghhjaa.Q
